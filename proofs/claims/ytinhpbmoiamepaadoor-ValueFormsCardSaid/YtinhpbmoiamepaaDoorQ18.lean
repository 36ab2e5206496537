/- Each function reached is shown to return what the plain function beside it computes, wherever that is defined (written by a program of ours for this seat). -/
import Derived.Test.YtinhpbmoiamepaaDoorQ0
import Derived.Test.YtinhpbmoiamepaaDoorQ7
import Derived.Test.YtinhpbmoiamepaaDoorQ9
import Derived.Test.YtinhpbmoiamepaaDoorQ11
import Derived.Test.YtinhpbmoiamepaaDoorQ16
import Derived.Test.YtinhpbmoiamepaaDoorQ17
namespace Go.Proofs.YtinhpbmoiamepaaDoor.Q
open Go.RowKit Go.Proofs.YtinhpbmoiamepaaDoorW.PrintWords Go.Proofs.YtinhpbmoiamepaaDoorW.PrintLast Go.Proofs.YtinhpbmoiamepaaDoorW.PrintMore
attribute [local go_sem] max2_int min2_int max_two min_two max_three min_three max_four min_four   -- for this text's walks alone
set_option linter.unusedVariables false
set_option linter.unusedSimpArgs false

/-! ### tacticianlaw01_ValueForms: function 4 -/
def tacticianlaw01_ValueForms.j0 : Nat → List (S25) → Int → Int → Bool → Int → Int → ByteArray → Int → Int → ByteArray → Option (Bool)
  | 0, _, _, _, _, _, _, _, _, _, _ => none
  | k + 1, x5, x9, x10, x66, x328000, x328001, x328002, x329000, x329001, x329002 => if x66 = true then (some false) else ((tacticianref01_List_s.f x5).bind fun t340 => (if t340 = 0 then ((tacticianref01_Compare_s.f x328000 x328001 x328002 x329000 x329001 x329002).bind fun t341 => (if x9 = t341 then (if x10 = 0 then ((tacticianlaw01_awake.f).bind fun t342 => (some t342)) else (some false)) else (some false))) else (if x9 = 0 then (if x10 = t340 then ((tacticianlaw01_awake.f).bind fun t343 => (some t343)) else (some false)) else (some false))))
def tacticianlaw01_ValueForms.f (k : Nat) (a0_0 : Int) (a0_1 : Int) (a0_2 : ByteArray) (a1_0 : Int) (a1_1 : Int) (a1_2 : ByteArray) : Option (Bool) := (tacticianlaw01_Cut.f k (([(⟨a0_0, a0_1, a0_2⟩ : S25), (⟨a1_0, a1_1, a1_2⟩ : S25)] : List (S25))) 2).bind fun t322 => (if 0 < (t322.length : Int) then (if 1 < (t322.length : Int) then (if 1 ≤ (t322.length : Int) then ((tacticianref01_List_s.f (t322.take 1)).bind fun t333 => ((value_Compare.f ((rd_T25 t322 0).f0) ((rd_T25 t322 0).f1) ((rd_T25 t322 0).f2) ((rd_T25 t322 1).f0) ((rd_T25 t322 1).f1) ((rd_T25 t322 1).f2)).bind fun bt334 => ((value_String.f ((rd_T25 t322 0).f0) ((rd_T25 t322 0).f1) ((rd_T25 t322 0).f2)).bind fun bt336 => ((value_Check.f ((rd_T25 t322 0).f0) ((rd_T25 t322 0).f1) ((rd_T25 t322 0).f2)).bind fun t338 => (if t338 = t333 then (if t333 = 0 then (if bt336.2 = 0 then ((tacticianref01_String_s.f ((rd_T25 t322 0).f0) ((rd_T25 t322 0).f1) ((rd_T25 t322 0).f2)).bind fun t339 => (tacticianlaw01_ValueForms.j0 k t322 bt334.1 bt334.2 (bt336.1.toList != t339.toList) ((rd_T25 t322 0).f0) ((rd_T25 t322 0).f1) ((rd_T25 t322 0).f2) ((rd_T25 t322 1).f0) ((rd_T25 t322 1).f1) ((rd_T25 t322 1).f2))) else (tacticianlaw01_ValueForms.j0 k t322 bt334.1 bt334.2 true ((rd_T25 t322 0).f0) ((rd_T25 t322 0).f1) ((rd_T25 t322 0).f2) ((rd_T25 t322 1).f0) ((rd_T25 t322 1).f1) ((rd_T25 t322 1).f2))) else (if bt336.2 = t333 then (if bt336.1.toList = ([] : List UInt8) then (tacticianlaw01_ValueForms.j0 k t322 bt334.1 bt334.2 false ((rd_T25 t322 0).f0) ((rd_T25 t322 0).f1) ((rd_T25 t322 0).f2) ((rd_T25 t322 1).f0) ((rd_T25 t322 1).f1) ((rd_T25 t322 1).f2)) else (tacticianlaw01_ValueForms.j0 k t322 bt334.1 bt334.2 true ((rd_T25 t322 0).f0) ((rd_T25 t322 0).f1) ((rd_T25 t322 0).f2) ((rd_T25 t322 1).f0) ((rd_T25 t322 1).f1) ((rd_T25 t322 1).f2))) else (tacticianlaw01_ValueForms.j0 k t322 bt334.1 bt334.2 true ((rd_T25 t322 0).f0) ((rd_T25 t322 0).f1) ((rd_T25 t322 0).f2) ((rd_T25 t322 1).f0) ((rd_T25 t322 1).f1) ((rd_T25 t322 1).f2)))) else (some false)))))) else (none)) else (none)) else (none))
theorem tacticianlaw01_ValueForms.mono_l : ∀ k, (∀ y0 y1 y2 y3 y4 y5 y6 y7 y8 y9, LeO (tacticianlaw01_ValueForms.j0 k y0 y1 y2 y3 y4 y5 y6 y7 y8 y9) (tacticianlaw01_ValueForms.j0 (k + 1) y0 y1 y2 y3 y4 y5 y6 y7 y8 y9))
  | 0 => fun _ _ _ _ _ _ _ _ _ _ r h => by simp [tacticianlaw01_ValueForms.j0] at h
  | k + 1 => by
    have ih0 := tacticianlaw01_ValueForms.mono_l k
    · intro y0 y1 y2 y3 y4 y5 y6 y7 y8 y9
      unfold tacticianlaw01_ValueForms.j0
      repeat' first
      | (with_reducible exact ih0 _ _ _ _ _ _ _ _ _ _)
      | (with_reducible exact tacticianlaw01_Cut.mono _ _ _)
      | (with_reducible exact LeO.refl _)
      | (with_reducible exact LeO.none _)
      | (with_reducible refine LeO.ite ?_ ?_)
      | (with_reducible refine LeO.bind ?_ (fun _ => ?_))
      | exact ih0 _ _ _ _ _ _ _ _ _ _
      | exact tacticianlaw01_Cut.mono _ _ _
      | exact LeO.none _
      | refine LeO.ite ?_ ?_
      | refine LeO.bind ?_ (fun _ => ?_)
theorem tacticianlaw01_ValueForms.mono : ∀ a0 a1 a2 a3 a4 a5 k, LeO (tacticianlaw01_ValueForms.f k a0 a1 a2 a3 a4 a5) (tacticianlaw01_ValueForms.f (k + 1) a0 a1 a2 a3 a4 a5) := by
  intro a0 a1 a2 a3 a4 a5 k
  have ih0 := tacticianlaw01_ValueForms.mono_l k
  unfold tacticianlaw01_ValueForms.f
  repeat' first
      | (with_reducible exact ih0 _ _ _ _ _ _ _ _ _ _)
      | (with_reducible exact tacticianlaw01_Cut.mono _ _ _)
      | (with_reducible exact LeO.refl _)
      | (with_reducible exact LeO.none _)
      | (with_reducible refine LeO.ite ?_ ?_)
      | (with_reducible refine LeO.bind ?_ (fun _ => ?_))
      | exact ih0 _ _ _ _ _ _ _ _ _ _
      | exact tacticianlaw01_Cut.mono _ _ _
      | exact LeO.none _
      | refine LeO.ite ?_ ?_
      | refine LeO.bind ?_ (fun _ => ?_)
def tacticianlaw01_ValueForms.T2 : Bool × List (List Nat × List Nat) := (true, [([], []), ([0], [0]), ([1], [1]), ([], []), ([3], [3]), ([4], [4]), ([], []), ([], []), ([6, 2, 0, 1, 2, 6, 7], [2, 6]), ([7, 5, 8, 0, 1, 2, 3, 4, 5, 6, 7, 8], [5, 7])])
def tacticianlaw01_ValueForms.B2 : List Nat := [0, 1, 3, 0, 8, 24, 0, 0, 199, 511]
theorem tacticianlaw01_ValueForms.tab2 : rtab .any (opsOf Tryd.f4 2) = tacticianlaw01_ValueForms.T2 := by kernel_rfl
theorem tacticianlaw01_ValueForms.bits2 : waitsOk tacticianlaw01_ValueForms.T2.2 tacticianlaw01_ValueForms.B2 = true := by kernel_rfl
set_option maxHeartbeats 8000000 in
set_option maxRecDepth 100000 in
theorem tacticianlaw01_ValueForms.calls (k : Nat) (a0_0 : Int) (a0_1 : Int) (a0_2 : ByteArray) (a1_0 : Int) (a1_1 : Int) (a1_2 : ByteArray) (r : Bool) (w : World) (hL_ : Laid w) (hr_ : Aside0 (r = true)) (h : tacticianlaw01_ValueForms.f k a0_0 a0_1 a0_2 a1_0 a1_1 a1_2 = some r) :
    Calls Tryd.prog 4 #[.agg #[.int .i64 a0_0, .int .i64 a0_1, .string a0_2], .agg #[.int .i64 a1_0, .int .i64 a1_1, .string a1_2]] w fun e w' => e = .returned (.bool r) ∧ Below w.heap.size w w' := by
  have hu25 := Tryd.underlying25
  have HLD := Aside0.mk hL_
  clear hL_
  have HB := Aside0.mk (Below.refl w.heap.size w)
  have H : ((tacticianlaw01_Cut.f k (([(⟨a0_0, a0_1, a0_2⟩ : S25), (⟨a1_0, a1_1, a1_2⟩ : S25)] : List (S25))) 2).bind fun t322 => (if 0 < (t322.length : Int) then (if 1 < (t322.length : Int) then (if 1 ≤ (t322.length : Int) then ((tacticianref01_List_s.f (t322.take 1)).bind fun t333 => ((value_Compare.f ((rd_T25 t322 0).f0) ((rd_T25 t322 0).f1) ((rd_T25 t322 0).f2) ((rd_T25 t322 1).f0) ((rd_T25 t322 1).f1) ((rd_T25 t322 1).f2)).bind fun bt334 => ((value_String.f ((rd_T25 t322 0).f0) ((rd_T25 t322 0).f1) ((rd_T25 t322 0).f2)).bind fun bt336 => ((value_Check.f ((rd_T25 t322 0).f0) ((rd_T25 t322 0).f1) ((rd_T25 t322 0).f2)).bind fun t338 => (if t338 = t333 then (if t333 = 0 then (if bt336.2 = 0 then ((tacticianref01_String_s.f ((rd_T25 t322 0).f0) ((rd_T25 t322 0).f1) ((rd_T25 t322 0).f2)).bind fun t339 => (tacticianlaw01_ValueForms.j0 k t322 bt334.1 bt334.2 (bt336.1.toList != t339.toList) ((rd_T25 t322 0).f0) ((rd_T25 t322 0).f1) ((rd_T25 t322 0).f2) ((rd_T25 t322 1).f0) ((rd_T25 t322 1).f1) ((rd_T25 t322 1).f2))) else (tacticianlaw01_ValueForms.j0 k t322 bt334.1 bt334.2 true ((rd_T25 t322 0).f0) ((rd_T25 t322 0).f1) ((rd_T25 t322 0).f2) ((rd_T25 t322 1).f0) ((rd_T25 t322 1).f1) ((rd_T25 t322 1).f2))) else (if bt336.2 = t333 then (if bt336.1.toList = ([] : List UInt8) then (tacticianlaw01_ValueForms.j0 k t322 bt334.1 bt334.2 false ((rd_T25 t322 0).f0) ((rd_T25 t322 0).f1) ((rd_T25 t322 0).f2) ((rd_T25 t322 1).f0) ((rd_T25 t322 1).f1) ((rd_T25 t322 1).f2)) else (tacticianlaw01_ValueForms.j0 k t322 bt334.1 bt334.2 true ((rd_T25 t322 0).f0) ((rd_T25 t322 0).f1) ((rd_T25 t322 0).f2) ((rd_T25 t322 1).f0) ((rd_T25 t322 1).f1) ((rd_T25 t322 1).f2))) else (tacticianlaw01_ValueForms.j0 k t322 bt334.1 bt334.2 true ((rd_T25 t322 0).f0) ((rd_T25 t322 0).f1) ((rd_T25 t322 0).f2) ((rd_T25 t322 1).f0) ((rd_T25 t322 1).f1) ((rd_T25 t322 1).f2)))) else (some false)))))) else (none)) else (none)) else (none))) = some r := h
  clear h
  obtain ⟨y319, hy319⟩ : ∃ y_ : List (S25), y_ = (([(⟨a0_0, a0_1, a0_2⟩ : S25), (⟨a1_0, a1_1, a1_2⟩ : S25)] : List (S25))) := ⟨_, rfl⟩
  replace H : ((tacticianlaw01_Cut.f k y319 2).bind fun t322 => (if 0 < (t322.length : Int) then (if 1 < (t322.length : Int) then (if 1 ≤ (t322.length : Int) then ((tacticianref01_List_s.f (t322.take 1)).bind fun t333 => ((value_Compare.f ((rd_T25 t322 0).f0) ((rd_T25 t322 0).f1) ((rd_T25 t322 0).f2) ((rd_T25 t322 1).f0) ((rd_T25 t322 1).f1) ((rd_T25 t322 1).f2)).bind fun bt334 => ((value_String.f ((rd_T25 t322 0).f0) ((rd_T25 t322 0).f1) ((rd_T25 t322 0).f2)).bind fun bt336 => ((value_Check.f ((rd_T25 t322 0).f0) ((rd_T25 t322 0).f1) ((rd_T25 t322 0).f2)).bind fun t338 => (if t338 = t333 then (if t333 = 0 then (if bt336.2 = 0 then ((tacticianref01_String_s.f ((rd_T25 t322 0).f0) ((rd_T25 t322 0).f1) ((rd_T25 t322 0).f2)).bind fun t339 => (tacticianlaw01_ValueForms.j0 k t322 bt334.1 bt334.2 (bt336.1.toList != t339.toList) ((rd_T25 t322 0).f0) ((rd_T25 t322 0).f1) ((rd_T25 t322 0).f2) ((rd_T25 t322 1).f0) ((rd_T25 t322 1).f1) ((rd_T25 t322 1).f2))) else (tacticianlaw01_ValueForms.j0 k t322 bt334.1 bt334.2 true ((rd_T25 t322 0).f0) ((rd_T25 t322 0).f1) ((rd_T25 t322 0).f2) ((rd_T25 t322 1).f0) ((rd_T25 t322 1).f1) ((rd_T25 t322 1).f2))) else (if bt336.2 = t333 then (if bt336.1.toList = ([] : List UInt8) then (tacticianlaw01_ValueForms.j0 k t322 bt334.1 bt334.2 false ((rd_T25 t322 0).f0) ((rd_T25 t322 0).f1) ((rd_T25 t322 0).f2) ((rd_T25 t322 1).f0) ((rd_T25 t322 1).f1) ((rd_T25 t322 1).f2)) else (tacticianlaw01_ValueForms.j0 k t322 bt334.1 bt334.2 true ((rd_T25 t322 0).f0) ((rd_T25 t322 0).f1) ((rd_T25 t322 0).f2) ((rd_T25 t322 1).f0) ((rd_T25 t322 1).f1) ((rd_T25 t322 1).f2))) else (tacticianlaw01_ValueForms.j0 k t322 bt334.1 bt334.2 true ((rd_T25 t322 0).f0) ((rd_T25 t322 0).f1) ((rd_T25 t322 0).f2) ((rd_T25 t322 1).f0) ((rd_T25 t322 1).f1) ((rd_T25 t322 1).f2)))) else (some false)))))) else (none)) else (none)) else (none))) = some r := by first | (rw [hy319]; with_reducible exact H) | (have H2_ := (Option.bind_some _ _).symm.trans H; rw [hy319]; with_reducible exact H2_) | (have H2_ := (Option.bind_some _ _).symm.trans H; with_reducible exact H2_) | with_reducible exact H | (rw [hy319]; exact H) | exact H
  have Ny319 := Aside0.mk hy319
  clear hy319
  replace H := Option.bind_eq_some_iff.mp H
  obtain ⟨t322, A30, H⟩ := H
  replace H : (if 0 < (t322.length : Int) then (if 1 < (t322.length : Int) then (if 1 ≤ (t322.length : Int) then ((tacticianref01_List_s.f (t322.take 1)).bind fun t333 => ((value_Compare.f ((rd_T25 t322 0).f0) ((rd_T25 t322 0).f1) ((rd_T25 t322 0).f2) ((rd_T25 t322 1).f0) ((rd_T25 t322 1).f1) ((rd_T25 t322 1).f2)).bind fun bt334 => ((value_String.f ((rd_T25 t322 0).f0) ((rd_T25 t322 0).f1) ((rd_T25 t322 0).f2)).bind fun bt336 => ((value_Check.f ((rd_T25 t322 0).f0) ((rd_T25 t322 0).f1) ((rd_T25 t322 0).f2)).bind fun t338 => (if t338 = t333 then (if t333 = 0 then (if bt336.2 = 0 then ((tacticianref01_String_s.f ((rd_T25 t322 0).f0) ((rd_T25 t322 0).f1) ((rd_T25 t322 0).f2)).bind fun t339 => (tacticianlaw01_ValueForms.j0 k t322 bt334.1 bt334.2 (bt336.1.toList != t339.toList) ((rd_T25 t322 0).f0) ((rd_T25 t322 0).f1) ((rd_T25 t322 0).f2) ((rd_T25 t322 1).f0) ((rd_T25 t322 1).f1) ((rd_T25 t322 1).f2))) else (tacticianlaw01_ValueForms.j0 k t322 bt334.1 bt334.2 true ((rd_T25 t322 0).f0) ((rd_T25 t322 0).f1) ((rd_T25 t322 0).f2) ((rd_T25 t322 1).f0) ((rd_T25 t322 1).f1) ((rd_T25 t322 1).f2))) else (if bt336.2 = t333 then (if bt336.1.toList = ([] : List UInt8) then (tacticianlaw01_ValueForms.j0 k t322 bt334.1 bt334.2 false ((rd_T25 t322 0).f0) ((rd_T25 t322 0).f1) ((rd_T25 t322 0).f2) ((rd_T25 t322 1).f0) ((rd_T25 t322 1).f1) ((rd_T25 t322 1).f2)) else (tacticianlaw01_ValueForms.j0 k t322 bt334.1 bt334.2 true ((rd_T25 t322 0).f0) ((rd_T25 t322 0).f1) ((rd_T25 t322 0).f2) ((rd_T25 t322 1).f0) ((rd_T25 t322 1).f1) ((rd_T25 t322 1).f2))) else (tacticianlaw01_ValueForms.j0 k t322 bt334.1 bt334.2 true ((rd_T25 t322 0).f0) ((rd_T25 t322 0).f1) ((rd_T25 t322 0).f2) ((rd_T25 t322 1).f0) ((rd_T25 t322 1).f1) ((rd_T25 t322 1).f2)))) else (some false)))))) else (none)) else (none)) else (none)) = some r := H
  have A3 := Aside0.mk A30
  clear A30
  by_cases c4 : 0 < (t322.length : Int)
  · rw [if_pos c4] at H
    have c4b0 : decide (0 < (t322.length : Int)) = true := decide_eq_true c4
    have c4b1 : decide (0 < t322.length) = true := decide_eq_true (by omega)
    clear c4
    by_cases c5 : 1 < (t322.length : Int)
    · rw [if_pos c5] at H
      have c5b0 : decide (1 < (t322.length : Int)) = true := decide_eq_true c5
      have c5b1 : decide (1 < t322.length) = true := decide_eq_true (by omega)
      clear c5
      by_cases c6 : 1 ≤ (t322.length : Int)
      · rw [if_pos c6] at H
        have c6b0 := eq_true c6
        have c6b1 : decide (1 ≤ (t322.length : Int)) = true := decide_eq_true c6
        clear c6
        obtain ⟨y329, hy329⟩ : ∃ y_ : List (S25), y_ = (t322.take 1) := ⟨_, rfl⟩
        replace H : ((tacticianref01_List_s.f y329).bind fun t333 => ((value_Compare.f ((rd_T25 t322 0).f0) ((rd_T25 t322 0).f1) ((rd_T25 t322 0).f2) ((rd_T25 t322 1).f0) ((rd_T25 t322 1).f1) ((rd_T25 t322 1).f2)).bind fun bt334 => ((value_String.f ((rd_T25 t322 0).f0) ((rd_T25 t322 0).f1) ((rd_T25 t322 0).f2)).bind fun bt336 => ((value_Check.f ((rd_T25 t322 0).f0) ((rd_T25 t322 0).f1) ((rd_T25 t322 0).f2)).bind fun t338 => (if t338 = t333 then (if t333 = 0 then (if bt336.2 = 0 then ((tacticianref01_String_s.f ((rd_T25 t322 0).f0) ((rd_T25 t322 0).f1) ((rd_T25 t322 0).f2)).bind fun t339 => (tacticianlaw01_ValueForms.j0 k t322 bt334.1 bt334.2 (bt336.1.toList != t339.toList) ((rd_T25 t322 0).f0) ((rd_T25 t322 0).f1) ((rd_T25 t322 0).f2) ((rd_T25 t322 1).f0) ((rd_T25 t322 1).f1) ((rd_T25 t322 1).f2))) else (tacticianlaw01_ValueForms.j0 k t322 bt334.1 bt334.2 true ((rd_T25 t322 0).f0) ((rd_T25 t322 0).f1) ((rd_T25 t322 0).f2) ((rd_T25 t322 1).f0) ((rd_T25 t322 1).f1) ((rd_T25 t322 1).f2))) else (if bt336.2 = t333 then (if bt336.1.toList = ([] : List UInt8) then (tacticianlaw01_ValueForms.j0 k t322 bt334.1 bt334.2 false ((rd_T25 t322 0).f0) ((rd_T25 t322 0).f1) ((rd_T25 t322 0).f2) ((rd_T25 t322 1).f0) ((rd_T25 t322 1).f1) ((rd_T25 t322 1).f2)) else (tacticianlaw01_ValueForms.j0 k t322 bt334.1 bt334.2 true ((rd_T25 t322 0).f0) ((rd_T25 t322 0).f1) ((rd_T25 t322 0).f2) ((rd_T25 t322 1).f0) ((rd_T25 t322 1).f1) ((rd_T25 t322 1).f2))) else (tacticianlaw01_ValueForms.j0 k t322 bt334.1 bt334.2 true ((rd_T25 t322 0).f0) ((rd_T25 t322 0).f1) ((rd_T25 t322 0).f2) ((rd_T25 t322 1).f0) ((rd_T25 t322 1).f1) ((rd_T25 t322 1).f2)))) else (some false)))))) = some r := by first | (rw [hy329]; with_reducible exact H) | (have H2_ := (Option.bind_some _ _).symm.trans H; rw [hy329]; with_reducible exact H2_) | (have H2_ := (Option.bind_some _ _).symm.trans H; with_reducible exact H2_) | with_reducible exact H | (rw [hy329]; exact H) | exact H
        have Ny329 := Aside0.mk hy329
        clear hy329
        replace H := Option.bind_eq_some_iff.mp H
        obtain ⟨t333, A70, H⟩ := H
        replace H : ((value_Compare.f ((rd_T25 t322 0).f0) ((rd_T25 t322 0).f1) ((rd_T25 t322 0).f2) ((rd_T25 t322 1).f0) ((rd_T25 t322 1).f1) ((rd_T25 t322 1).f2)).bind fun bt334 => ((value_String.f ((rd_T25 t322 0).f0) ((rd_T25 t322 0).f1) ((rd_T25 t322 0).f2)).bind fun bt336 => ((value_Check.f ((rd_T25 t322 0).f0) ((rd_T25 t322 0).f1) ((rd_T25 t322 0).f2)).bind fun t338 => (if t338 = t333 then (if t333 = 0 then (if bt336.2 = 0 then ((tacticianref01_String_s.f ((rd_T25 t322 0).f0) ((rd_T25 t322 0).f1) ((rd_T25 t322 0).f2)).bind fun t339 => (tacticianlaw01_ValueForms.j0 k t322 bt334.1 bt334.2 (bt336.1.toList != t339.toList) ((rd_T25 t322 0).f0) ((rd_T25 t322 0).f1) ((rd_T25 t322 0).f2) ((rd_T25 t322 1).f0) ((rd_T25 t322 1).f1) ((rd_T25 t322 1).f2))) else (tacticianlaw01_ValueForms.j0 k t322 bt334.1 bt334.2 true ((rd_T25 t322 0).f0) ((rd_T25 t322 0).f1) ((rd_T25 t322 0).f2) ((rd_T25 t322 1).f0) ((rd_T25 t322 1).f1) ((rd_T25 t322 1).f2))) else (if bt336.2 = t333 then (if bt336.1.toList = ([] : List UInt8) then (tacticianlaw01_ValueForms.j0 k t322 bt334.1 bt334.2 false ((rd_T25 t322 0).f0) ((rd_T25 t322 0).f1) ((rd_T25 t322 0).f2) ((rd_T25 t322 1).f0) ((rd_T25 t322 1).f1) ((rd_T25 t322 1).f2)) else (tacticianlaw01_ValueForms.j0 k t322 bt334.1 bt334.2 true ((rd_T25 t322 0).f0) ((rd_T25 t322 0).f1) ((rd_T25 t322 0).f2) ((rd_T25 t322 1).f0) ((rd_T25 t322 1).f1) ((rd_T25 t322 1).f2))) else (tacticianlaw01_ValueForms.j0 k t322 bt334.1 bt334.2 true ((rd_T25 t322 0).f0) ((rd_T25 t322 0).f1) ((rd_T25 t322 0).f2) ((rd_T25 t322 1).f0) ((rd_T25 t322 1).f1) ((rd_T25 t322 1).f2)))) else (some false))))) = some r := H
        have A7 := Aside0.mk A70
        clear A70
        replace H := Option.bind_eq_some_iff.mp H
        obtain ⟨⟨t334, t335⟩, A80, H⟩ := H
        replace H : ((value_String.f ((rd_T25 t322 0).f0) ((rd_T25 t322 0).f1) ((rd_T25 t322 0).f2)).bind fun bt336 => ((value_Check.f ((rd_T25 t322 0).f0) ((rd_T25 t322 0).f1) ((rd_T25 t322 0).f2)).bind fun t338 => (if t338 = t333 then (if t333 = 0 then (if bt336.2 = 0 then ((tacticianref01_String_s.f ((rd_T25 t322 0).f0) ((rd_T25 t322 0).f1) ((rd_T25 t322 0).f2)).bind fun t339 => (tacticianlaw01_ValueForms.j0 k t322 t334 t335 (bt336.1.toList != t339.toList) ((rd_T25 t322 0).f0) ((rd_T25 t322 0).f1) ((rd_T25 t322 0).f2) ((rd_T25 t322 1).f0) ((rd_T25 t322 1).f1) ((rd_T25 t322 1).f2))) else (tacticianlaw01_ValueForms.j0 k t322 t334 t335 true ((rd_T25 t322 0).f0) ((rd_T25 t322 0).f1) ((rd_T25 t322 0).f2) ((rd_T25 t322 1).f0) ((rd_T25 t322 1).f1) ((rd_T25 t322 1).f2))) else (if bt336.2 = t333 then (if bt336.1.toList = ([] : List UInt8) then (tacticianlaw01_ValueForms.j0 k t322 t334 t335 false ((rd_T25 t322 0).f0) ((rd_T25 t322 0).f1) ((rd_T25 t322 0).f2) ((rd_T25 t322 1).f0) ((rd_T25 t322 1).f1) ((rd_T25 t322 1).f2)) else (tacticianlaw01_ValueForms.j0 k t322 t334 t335 true ((rd_T25 t322 0).f0) ((rd_T25 t322 0).f1) ((rd_T25 t322 0).f2) ((rd_T25 t322 1).f0) ((rd_T25 t322 1).f1) ((rd_T25 t322 1).f2))) else (tacticianlaw01_ValueForms.j0 k t322 t334 t335 true ((rd_T25 t322 0).f0) ((rd_T25 t322 0).f1) ((rd_T25 t322 0).f2) ((rd_T25 t322 1).f0) ((rd_T25 t322 1).f1) ((rd_T25 t322 1).f2)))) else (some false)))) = some r := H
        have A8 := Aside0.mk A80
        clear A80
        replace H := Option.bind_eq_some_iff.mp H
        obtain ⟨⟨t336, t337⟩, A90, H⟩ := H
        replace H : ((value_Check.f ((rd_T25 t322 0).f0) ((rd_T25 t322 0).f1) ((rd_T25 t322 0).f2)).bind fun t338 => (if t338 = t333 then (if t333 = 0 then (if t337 = 0 then ((tacticianref01_String_s.f ((rd_T25 t322 0).f0) ((rd_T25 t322 0).f1) ((rd_T25 t322 0).f2)).bind fun t339 => (tacticianlaw01_ValueForms.j0 k t322 t334 t335 (t336.toList != t339.toList) ((rd_T25 t322 0).f0) ((rd_T25 t322 0).f1) ((rd_T25 t322 0).f2) ((rd_T25 t322 1).f0) ((rd_T25 t322 1).f1) ((rd_T25 t322 1).f2))) else (tacticianlaw01_ValueForms.j0 k t322 t334 t335 true ((rd_T25 t322 0).f0) ((rd_T25 t322 0).f1) ((rd_T25 t322 0).f2) ((rd_T25 t322 1).f0) ((rd_T25 t322 1).f1) ((rd_T25 t322 1).f2))) else (if t337 = t333 then (if t336.toList = ([] : List UInt8) then (tacticianlaw01_ValueForms.j0 k t322 t334 t335 false ((rd_T25 t322 0).f0) ((rd_T25 t322 0).f1) ((rd_T25 t322 0).f2) ((rd_T25 t322 1).f0) ((rd_T25 t322 1).f1) ((rd_T25 t322 1).f2)) else (tacticianlaw01_ValueForms.j0 k t322 t334 t335 true ((rd_T25 t322 0).f0) ((rd_T25 t322 0).f1) ((rd_T25 t322 0).f2) ((rd_T25 t322 1).f0) ((rd_T25 t322 1).f1) ((rd_T25 t322 1).f2))) else (tacticianlaw01_ValueForms.j0 k t322 t334 t335 true ((rd_T25 t322 0).f0) ((rd_T25 t322 0).f1) ((rd_T25 t322 0).f2) ((rd_T25 t322 1).f0) ((rd_T25 t322 1).f1) ((rd_T25 t322 1).f2)))) else (some false))) = some r := H
        have A9 := Aside0.mk A90
        clear A90
        replace H := Option.bind_eq_some_iff.mp H
        obtain ⟨t338, A100, H⟩ := H
        replace H : (if t338 = t333 then (if t333 = 0 then (if t337 = 0 then ((tacticianref01_String_s.f ((rd_T25 t322 0).f0) ((rd_T25 t322 0).f1) ((rd_T25 t322 0).f2)).bind fun t339 => (tacticianlaw01_ValueForms.j0 k t322 t334 t335 (t336.toList != t339.toList) ((rd_T25 t322 0).f0) ((rd_T25 t322 0).f1) ((rd_T25 t322 0).f2) ((rd_T25 t322 1).f0) ((rd_T25 t322 1).f1) ((rd_T25 t322 1).f2))) else (tacticianlaw01_ValueForms.j0 k t322 t334 t335 true ((rd_T25 t322 0).f0) ((rd_T25 t322 0).f1) ((rd_T25 t322 0).f2) ((rd_T25 t322 1).f0) ((rd_T25 t322 1).f1) ((rd_T25 t322 1).f2))) else (if t337 = t333 then (if t336.toList = ([] : List UInt8) then (tacticianlaw01_ValueForms.j0 k t322 t334 t335 false ((rd_T25 t322 0).f0) ((rd_T25 t322 0).f1) ((rd_T25 t322 0).f2) ((rd_T25 t322 1).f0) ((rd_T25 t322 1).f1) ((rd_T25 t322 1).f2)) else (tacticianlaw01_ValueForms.j0 k t322 t334 t335 true ((rd_T25 t322 0).f0) ((rd_T25 t322 0).f1) ((rd_T25 t322 0).f2) ((rd_T25 t322 1).f0) ((rd_T25 t322 1).f1) ((rd_T25 t322 1).f2))) else (tacticianlaw01_ValueForms.j0 k t322 t334 t335 true ((rd_T25 t322 0).f0) ((rd_T25 t322 0).f1) ((rd_T25 t322 0).f2) ((rd_T25 t322 1).f0) ((rd_T25 t322 1).f1) ((rd_T25 t322 1).f2)))) else (some false)) = some r := H
        have A10 := Aside0.mk A100
        clear A100
        by_cases c11 : t338 = t333
        · rw [if_pos c11] at H
          have c11b0 : (t338 == t333) = true := beq_iff_eq.mpr c11
          have c11b1 : (t338 != t333) = false := bne_eq_false_iff_eq.mpr c11
          clear c11
          have HC12 := Aside0.mk H
          clear H
          go_enter Tryd.func4, Tryd.ntmps4
          try go_wp2_with (first | ((with_reducible refine gate_dst (N := 2) rfl ?_); refine box_event ?hg (N := 2) ?hd (cs := #[.int .i64 a0_0, .int .i64 a0_1, .string a0_2]) (t := 25) ?hr ?_; (case hd => rfl); (case hg => rfl); (case hr => first | (go_simp; done) | (go_simp; rfl)); intro gb317 hg w13 hbox hb; have n0_ := Aside0.mk (below_step (by repeat (first | (with_reducible first | exact HB.out | apply yA | apply yN | apply yD) | exact HB.out)) hb); have n1_ := Aside0.mk (hbox); have n2_ := Aside0.mk ((by rw [hg]; exact (below_size (by repeat (first | (with_reducible first | exact HB.out | apply yA | apply yN | apply yD) | exact HB.out))) : w.heap.size ≤ gb317)); have n3_ := Aside0.mk ((by rw [hg]; exact (below_size (by repeat (first | (with_reducible first | exact HB.out | apply yA | apply yN | apply yD) | exact HB.out))) : w.heap.size ≤ gb317)); clear HB; have HB := n0_; have BK317 := n1_; have GW317 := n2_; have GE317 := n3_; clear n0_ n1_ n2_ n3_; clear hb hbox hg) | ((with_reducible refine gate_dst (N := 3) rfl ?_); refine box_event ?hg (N := 3) ?hd (cs := #[.int .i64 a1_0, .int .i64 a1_1, .string a1_2]) (t := 25) ?hr ?_; (case hd => rfl); (case hg => rfl); (case hr => first | (go_simp; done) | (go_simp; rfl)); intro gb318 hg w14 hbox hb; have n0_ := Aside0.mk (blk_below (g := gb317) (o := .cells #[.int .i64 a0_0, .int .i64 a0_1, .string a0_2] 25 (0, 0)) (by (with_reducible repeat (first | refine zN ?_ _ | refine zD ?_ | refine zA ?_ _)); exact BK317.out) hb); have n1_ := Aside0.mk (below_step (by repeat (first | (with_reducible first | exact HB.out | apply yA | apply yN | apply yD | refine below_set ?_ GE317.out) | exact HB.out)) hb); have n2_ := Aside0.mk (hbox); have n3_ := Aside0.mk ((by rw [hg]; exact (below_size (by repeat (first | (with_reducible first | exact HB.out | apply yA | apply yN | apply yD | refine below_set ?_ GE317.out) | exact HB.out))) : w.heap.size ≤ gb318)); have n4_ := Aside0.mk ((by rw [hg]; exact (below_size (by repeat (first | (with_reducible first | exact HB.out | apply yA | apply yN | apply yD | refine below_set ?_ GE317.out) | exact HB.out))) : w.heap.size ≤ gb318)); have n5_ := Aside0.mk ((by rw [hg]; exact Nat.ne_of_lt (blk_lt (g := gb317) (o := .cells #[.int .i64 a0_0, .int .i64 a0_1, .string a0_2] 25 (0, 0)) (by (with_reducible repeat (first | refine zN ?_ _ | refine zD ?_ | refine zA ?_ _)); exact BK317.out)) : gb317 ≠ gb318)); have n6_ := Aside0.mk ((by rw [hg]; exact Nat.ne_of_gt (blk_lt (g := gb317) (o := .cells #[.int .i64 a0_0, .int .i64 a0_1, .string a0_2] 25 (0, 0)) (by (with_reducible repeat (first | refine zN ?_ _ | refine zD ?_ | refine zA ?_ _)); exact BK317.out)) : gb318 ≠ gb317)); clear BK317; clear HB; have BK317 := n0_; have HB := n1_; have BK318 := n2_; have GW318 := n3_; have GE318 := n4_; have NB317_318 := n5_; have NB318_317 := n6_; clear n0_ n1_ n2_ n3_ n4_ n5_ n6_; clear hb hbox hg; have hnb15 := NB317_318.out; have hnc15 := NB318_317.out; have hcz16_0 : w14.cell? ⟨gb317, 0, none⟩ = some (.int .i64 a0_0) := (blk_cell BK317.out 0).trans rfl; have hcz16_1 : w14.cell? ⟨gb317, 1, none⟩ = some (.int .i64 a0_1) := (blk_cell BK317.out 1).trans rfl; have hcz16_2 : w14.cell? ⟨gb317, 2, none⟩ = some (.string a0_2) := (blk_cell BK317.out 2).trans rfl; have hfz16_0 := blk_frozen BK317.out 0; have hfz16_1 := blk_frozen BK317.out 1; have hfz16_2 := blk_frozen BK317.out 2; have hcz17_0 : w14.cell? ⟨gb318, 0, none⟩ = some (.int .i64 a1_0) := (blk_cell BK318.out 0).trans rfl; have hcz17_1 : w14.cell? ⟨gb318, 1, none⟩ = some (.int .i64 a1_1) := (blk_cell BK318.out 1).trans rfl; have hcz17_2 : w14.cell? ⟨gb318, 2, none⟩ = some (.string a1_2) := (blk_cell BK318.out 2).trans rfl; have hfz17_0 := blk_frozen BK318.out 0; have hfz17_1 := blk_frozen BK318.out 1; have hfz17_2 := blk_frozen BK318.out 2) | ((with_reducible refine gate_dst (N := 16) rfl ?_); refine Kd.R_lit k25 _ 25 ?hg (N := 16) ?hd (xs := ([(⟨a0_0, a0_1, a0_2⟩ : S25), (⟨a1_0, a1_1, a1_2⟩ : S25)] : List (S25))) (inner := [.int .i64 a0_0, .int .i64 a0_1, .string a0_2, .int .i64 a1_0, .int .i64 a1_1, .string a1_2]) (ok := fun _ => True) (okp := fun _ => True) ?hr ?hp (fun _ hk => hk) trivial (Below.refl _ _) (Nat.le_refl _) (by simp) ?_; (case hd => rfl); (case hg => rfl); (case hr => first | (go_simp; done) | (go_simp; rfl)); (case hp => exact (Reps.c3 (show Kd.M k25 _ _ _ (⟨a0_0, a0_1, a0_2⟩ : S25) [.int .i64 a0_0, .int .i64 a0_1, .string a0_2] from (k25_mkM _ _ _ (⟨a0_0, a0_1, a0_2⟩ : S25) )) (Reps.c3 (show Kd.M k25 _ _ _ (⟨a1_0, a1_1, a1_2⟩ : S25) [.int .i64 a1_0, .int .i64 a1_1, .string a1_2] from (k25_mkM _ _ _ (⟨a1_0, a1_1, a1_2⟩ : S25) )) (Reps.none _ _)))); intro v320 w18 ho19 hb hg_ hnew_; clear hg_ hnew_; (first | rw [← Ny319.out] at ho19 | (simp only [Int.reduceToNat] at ho19; rw [← Ny319.out] at ho19)); have n0_ := Aside0.mk (Kd.R_lower (Kd.R_newB (Kd.R_newB ho19 (g := gb317) (o := .cells #[.int .i64 a0_0, .int .i64 a0_1, .string a0_2] 25 (0, 0)) (by (with_reducible repeat (first | refine zN ?_ _ | refine zD ?_ | refine zA ?_ _)); exact BK317.out)) (g := gb318) (o := .cells #[.int .i64 a1_0, .int .i64 a1_1, .string a1_2] 25 (0, 0)) (by (with_reducible repeat (first | refine zN ?_ _ | refine zD ?_ | refine zA ?_ _)); exact BK318.out)) (below_size (by repeat (first | (with_reducible first | exact HB.out | apply yA | apply yN | apply yD | refine below_set ?_ GE317.out | refine below_set ?_ GE318.out) | exact HB.out)))); have n1_ := Aside0.mk (blk_below (g := gb317) (o := .cells #[.int .i64 a0_0, .int .i64 a0_1, .string a0_2] 25 (0, 0)) (by (with_reducible repeat (first | refine zN ?_ _ | refine zD ?_ | refine zA ?_ _)); exact BK317.out) hb); have n2_ := Aside0.mk (blk_below (g := gb318) (o := .cells #[.int .i64 a1_0, .int .i64 a1_1, .string a1_2] 25 (0, 0)) (by (with_reducible repeat (first | refine zN ?_ _ | refine zD ?_ | refine zA ?_ _)); exact BK318.out) hb); have n3_ := Aside0.mk (below_step (by repeat (first | (with_reducible first | exact HB.out | apply yA | apply yN | apply yD | refine below_set ?_ GE317.out | refine below_set ?_ GE318.out) | exact HB.out)) hb); clear BK317; clear BK318; clear HB; have HO321 := n0_; have BK317 := n1_; have BK318 := n2_; have HB := n3_; clear n0_ n1_ n2_ n3_; clear hb ho19; obtain ⟨Ao20, co20, eo20⟩ := Kd.R_slice HO321.out; subst eo20) | ((with_reducible refine gate_callee (f := 10) rfl ?_); refine goesL_ (some 17) rfl rfl Tryd.func10 (by kernel_rfl) rfl #[.slice Ao20 y319.length co20, .int .i64 2] rfl (by (try simp only [List.map_toArray, List.map_cons, List.map_nil]); first | done | rfl | (simp only [List.length_drop, List.length_take]; rfl)) ?_; (with_reducible refine (tacticianlaw01_Cut.calls k _ _ y319 2 t322 _ ?side1 ?side2 A3.out).mono ?_); (case side1 => repeat (first | exact (Kd.R_reads' HO321.out).2.2 | (with_reducible refine Kd.C_alloc ?_ _) | (with_reducible refine Kd.C_drewN ?_ _) | (with_reducible refine Kd.C_drew ?_))); (case side2 => exact (Kd.R_reads' HO321.out).2.1); rintro e w21 ⟨v323, rfl, ho0, hb⟩; refine ⟨_, rfl, ?_⟩; have n0_ := Aside0.mk (Kd.R_elder' (by (with_reducible repeat (first | apply Kd.R_alloc | apply Kd.R_drewN | apply Kd.R_drew)); exact HO321.out) (Kd.R_base ho0) hb); have n1_ := Aside0.mk (Kd.R_lower (Kd.R_newB (Kd.R_newB (Kd.R_new' ho0 (Kd.R_lt (by (with_reducible repeat (first | apply Kd.R_alloc | apply Kd.R_drewN | apply Kd.R_drew)); exact HO321.out))) (g := gb317) (o := .cells #[.int .i64 a0_0, .int .i64 a0_1, .string a0_2] 25 (0, 0)) (by (with_reducible repeat (first | refine zN ?_ _ | refine zD ?_ | refine zA ?_ _)); exact BK317.out)) (g := gb318) (o := .cells #[.int .i64 a1_0, .int .i64 a1_1, .string a1_2] 25 (0, 0)) (by (with_reducible repeat (first | refine zN ?_ _ | refine zD ?_ | refine zA ?_ _)); exact BK318.out)) (below_size (by repeat (first | (with_reducible first | exact HB.out | apply yA | apply yN | apply yD | refine below_set ?_ GE317.out | refine below_set ?_ GE318.out) | exact HB.out)))); have n2_ := Aside0.mk (blk_below (g := gb317) (o := .cells #[.int .i64 a0_0, .int .i64 a0_1, .string a0_2] 25 (0, 0)) (by (with_reducible repeat (first | refine zN ?_ _ | refine zD ?_ | refine zA ?_ _)); exact BK317.out) hb); have n3_ := Aside0.mk (blk_below (g := gb318) (o := .cells #[.int .i64 a1_0, .int .i64 a1_1, .string a1_2] 25 (0, 0)) (by (with_reducible repeat (first | refine zN ?_ _ | refine zD ?_ | refine zA ?_ _)); exact BK318.out) hb); have n4_ := Aside0.mk (below_step (by repeat (first | (with_reducible first | exact HB.out | apply yA | apply yN | apply yD | refine below_set ?_ GE317.out | refine below_set ?_ GE318.out) | exact HB.out)) hb); clear HO321; clear BK317; clear BK318; clear HB; have HO321 := n0_; have HO324 := n1_; have BK317 := n2_; have BK318 := n3_; have HB := n4_; clear n0_ n1_ n2_ n3_ n4_; (try clear hb); (try clear hb2); (try clear hk); (try clear hi); (try clear ho0)))
          have n0_ := Aside0.mk (Kd.R_drew HO321.out)
          have n1_ := Aside0.mk (Kd.R_drew HO324.out)
          have n2_ := Aside0.mk (blk_drew BK317.out)
          have n3_ := Aside0.mk (blk_drew BK318.out)
          have n4_ := Aside0.mk (below_drew1 HB.out)
          clear HO321
          clear HO324
          clear BK317
          clear BK318
          clear HB
          have HO321 := n0_
          have HO324 := n1_
          have BK317 := n2_
          have BK318 := n3_
          have HB := n4_
          clear n0_ n1_ n2_ n3_ n4_
          obtain ⟨Ao23, co23, eo23⟩ := Kd.R_slice HO324.out
          (first | subst eo23 | (injection eo23 with f1_ f2_ f3_; have f4_ := f1_.symm; have f5_ := f3_.symm; clear f1_ f2_ f3_; subst f4_; subst f5_))
          have p325 : 0 ≤ (0 : Int) := (by omega)
          have q325 : 0 < (t322.length : Int) := of_decide_eq_true (by first | (with_reducible assumption) | assumption)
          obtain ⟨ad325, e325, hx325_0, hx325_1, hx325_2⟩ := at_T25 (Kd.R_reads' HO324.out).2.2 0 p325 q325
          cases e325
          have qi325 : (0 < t322.length) = True := eq_true (by omega)
          (try rw [show ((0 : Int)).toNat = 0 from rfl] at hx325_0)
          (try rw [show 0 * 3 = 0 from rfl] at hx325_0)
          (try rw [Addr.add_zero'] at hx325_0)
          (try rw [show ((0 : Int)).toNat = 0 from rfl] at hx325_1)
          (try rw [show 0 * 3 = 0 from rfl] at hx325_1)
          (try rw [Addr.add_zero'] at hx325_1)
          (try rw [show ((0 : Int)).toNat = 0 from rfl] at hx325_2)
          (try rw [show 0 * 3 = 0 from rfl] at hx325_2)
          (try rw [Addr.add_zero'] at hx325_2)
          replace p325 := eq_true p325
          replace q325 := eq_true q325
          have p326 : 0 ≤ (1 : Int) := (by omega)
          have q326 : 1 < (t322.length : Int) := of_decide_eq_true (by first | (with_reducible assumption) | assumption)
          obtain ⟨ad326, e326, hx326_0, hx326_1, hx326_2⟩ := at_T25 (Kd.R_reads' HO324.out).2.2 1 p326 q326
          obtain rfl : ad325 = ad326 := (by injection e326)
          (try simp only [show (1 : Int).toNat = 1 from rfl, Nat.reduceMul, Nat.reduceEqDiff, Go.Addr.add, ↓reduceIte] at hx326_0)
          (try simp only [show (1 : Int).toNat = 1 from rfl, Nat.reduceMul, Nat.reduceEqDiff, Go.Addr.add, ↓reduceIte] at hx326_1)
          (try simp only [show (1 : Int).toNat = 1 from rfl, Nat.reduceMul, Nat.reduceEqDiff, Go.Addr.add, ↓reduceIte] at hx326_2)
          have qi326 : (1 < t322.length) = True := eq_true (by omega)
          (try rw [show ((1 : Int)).toNat = 1 from rfl] at hx326_0)
          (try rw [show 1 * 3 = 3 from rfl] at hx326_0)
          (try rw [show ((1 : Int)).toNat = 1 from rfl] at hx326_1)
          (try rw [show 1 * 3 = 3 from rfl] at hx326_1)
          (try rw [show ((1 : Int)).toNat = 1 from rfl] at hx326_2)
          (try rw [show 1 * 3 = 3 from rfl] at hx326_2)
          replace p326 := eq_true p326
          replace q326 := eq_true q326
          refine start_ (n := 10) (S := fun w' => w'.cell? ad325 = some (.int .i64 ((rd_T25 t322 0).f0)) ∧ w'.cell? ⟨ad325.block, ad325.off + 1, none⟩ = some (.int .i64 ((rd_T25 t322 0).f1)) ∧ w'.cell? ⟨ad325.block, ad325.off + 2, none⟩ = some (.string ((rd_T25 t322 0).f2)) ∧ w'.cell? ⟨ad325.block, ad325.off + 3, none⟩ = some (.int .i64 ((rd_T25 t322 1).f0)) ∧ w'.cell? ⟨ad325.block, ad325.off + 3 + 1, none⟩ = some (.int .i64 ((rd_T25 t322 1).f1)) ∧ w'.cell? ⟨ad325.block, ad325.off + 3 + 2, none⟩ = some (.string ((rd_T25 t322 1).f2))) (ds := []) #[false, false, false, false, false, false, false, false, false, false] (by kernel_rfl) rfl rfl ⟨hx325_0, hx325_1, hx325_2, hx326_0, hx326_1, hx326_2⟩ (fun hHeld => ?_); refine with_tabW tacticianlaw01_ValueForms.tab2 tacticianlaw01_ValueForms.bits2 (fun HT_ HW_ => ?_)
          generalize w21.drew = w22 at HO321 HO324 BK317 BK318 HB hx325_0 hx325_1 hx325_2 hx326_0 hx326_1 hx326_2 hHeld ⊢
          refine pure_ (i := 0) (N := some 18) (v := ?_) (a' := ?_) #[true, false, false, false, false, false, false, false, false, false] rfl rfl (any_of HT_.out (by kernel_rfl)) (fun _ _ _ h => h) (Or.inl ⟨by rfl, ?_⟩) ?_ ?_
          rotate_left
          · intro w'
            go_simp
            with_reducible rfl
          rotate_left
          · simp only [Act.put, List.setIfInBounds_toArray, List.set_cons_zero, List.set_cons_succ, i64_w, i32_w]
            rfl
          refine pure_ (i := 1) (N := some 19) (v := ?_) (a' := ?_) #[true, true, false, false, false, false, false, false, false, false] rfl rfl (any_of HT_.out (by kernel_rfl)) (fun _ _ _ h => h) (Or.inl ⟨by rfl, ?_⟩) ?_ ?_
          rotate_left
          · intro w'
            go_simp
            with_reducible rfl
          rotate_left
          · simp only [Act.put, List.setIfInBounds_toArray, List.set_cons_zero, List.set_cons_succ, i64_w, i32_w]
            rfl
          refine pure_ (i := 3) (N := some 21) (v := ?_) (a' := ?_) #[true, true, false, true, false, false, false, false, false, false] rfl rfl (any_of HT_.out (by kernel_rfl)) (fun _ _ _ h => h) (Or.inl ⟨by rfl, ?_⟩) ?_ ?_
          rotate_left
          · intro w'
            go_simp
            with_reducible rfl
          rotate_left
          · simp only [Act.put, List.setIfInBounds_toArray, List.set_cons_zero, List.set_cons_succ, i64_w, i32_w]
            rfl
          refine pure_ (i := 4) (N := some 22) (v := ?_) (a' := ?_) #[true, true, false, true, true, false, false, false, false, false] rfl rfl (any_of HT_.out (by kernel_rfl)) (fun _ _ _ h => h) (Or.inl ⟨by rfl, ?_⟩) ?_ ?_
          rotate_left
          · intro w'
            go_simp
            with_reducible rfl
          rotate_left
          · simp only [Act.put, List.setIfInBounds_toArray, List.set_cons_zero, List.set_cons_succ, i64_w, i32_w]
            rfl
          refine take_ (i := 2) (N := some 20) (v := ?_) (a' := ?_) #[true, true, true, true, true, false, false, false, false, false] rfl rfl (take_ofW HT_.out HW_.out (by kernel_rfl)) (fun _ _ _ h => h) (Or.inl ⟨by rfl, ?_⟩) hHeld ?_ ?_
          rotate_left
          · rintro w' ⟨s0, s1, s2, s3, s4, s5⟩
            go_simp
            with_reducible rfl
          rotate_left
          · simp only [Act.put, List.setIfInBounds_toArray, List.set_cons_zero, List.set_cons_succ, i64_w, i32_w]
            rfl
          refine take_ (i := 5) (N := some 23) (v := ?_) (a' := ?_) #[true, true, true, true, true, true, false, false, false, false] rfl rfl (take_ofW HT_.out HW_.out (by kernel_rfl)) (fun _ _ _ h => h) (Or.inl ⟨by rfl, ?_⟩) hHeld ?_ ?_
          rotate_left
          · rintro w' ⟨s0, s1, s2, s3, s4, s5⟩
            go_simp
            with_reducible rfl
          rotate_left
          · simp only [Act.put, List.setIfInBounds_toArray, List.set_cons_zero, List.set_cons_succ, i64_w, i32_w]
            rfl
          refine join_ (σ := Nat × Nat) 2 #[true, true, true, true, true, true, true, true, false, false] (fun s_ => [(6, .pointer (some ⟨s_.1, 0, none⟩)), (7, .pointer (some ⟨s_.2, 0, none⟩))]) (fun s_ w' => (w'.cell? ad325 = some (.int .i64 ((rd_T25 t322 0).f0)) ∧ w'.cell? ⟨ad325.block, ad325.off + 1, none⟩ = some (.int .i64 ((rd_T25 t322 0).f1)) ∧ w'.cell? ⟨ad325.block, ad325.off + 2, none⟩ = some (.string ((rd_T25 t322 0).f2)) ∧ w'.cell? ⟨ad325.block, ad325.off + 3, none⟩ = some (.int .i64 ((rd_T25 t322 1).f0)) ∧ w'.cell? ⟨ad325.block, ad325.off + 3 + 1, none⟩ = some (.int .i64 ((rd_T25 t322 1).f1)) ∧ w'.cell? ⟨ad325.block, ad325.off + 3 + 2, none⟩ = some (.string ((rd_T25 t322 1).f2))) ∧ (Kd.R k25 25 w' w.heap.size (fun k_ => some k_ ≠ (.slice (some ad325) t322.length co23 : Value).ownBlock ∧ k_ ≠ gb317 ∧ k_ ≠ gb318 ∧ k_ ≠ s_.1 ∧ k_ ≠ s_.2) (.slice Ao20 y319.length co20) y319) ∧ (Kd.R k25 25 w' w.heap.size (fun k_ => some k_ ≠ (.slice Ao20 y319.length co20 : Value).ownBlock ∧ k_ ≠ gb317 ∧ k_ ≠ gb318 ∧ k_ ≠ s_.1 ∧ k_ ≠ s_.2) (.slice (some ad325) t322.length co23) t322) ∧ (w'.heap[gb317]? = some (.cells #[.int .i64 a0_0, .int .i64 a0_1, .string a0_2] 25 (0, 0))) ∧ (w'.heap[gb318]? = some (.cells #[.int .i64 a1_0, .int .i64 a1_1, .string a1_2] 25 (0, 0))) ∧ (w'.heap[s_.1]? = some (.cells #[.int .i64 0, .int .i64 0, .string (⟨#[]⟩ : ByteArray)] 25 (0, 0))) ∧ (w'.heap[s_.2]? = some (.cells #[.int .i64 0, .int .i64 0, .string (⟨#[]⟩ : ByteArray)] 25 (0, 0))) ∧ (w.heap.size ≤ s_.1) ∧ (w.heap.size ≤ s_.1) ∧ (gb317 ≠ s_.1) ∧ (s_.1 ≠ gb317) ∧ (gb318 ≠ s_.1) ∧ (s_.1 ≠ gb318) ∧ (s_.2 ≠ s_.1) ∧ (s_.1 ≠ s_.2) ∧ (w.heap.size ≤ s_.2) ∧ (w.heap.size ≤ s_.2) ∧ (gb317 ≠ s_.2) ∧ (s_.2 ≠ gb317) ∧ (gb318 ≠ s_.2) ∧ (s_.2 ≠ gb318) ∧ (Below w.heap.size w w')) ?_ ?_
          rotate_left
          · intro hCont
            refine two_ (i := 6) (j := 7) (Ni := some 6) (Nj := some 7) #[true, true, true, true, true, true, true, false, false, false] #[true, true, true, true, true, true, false, true, false, false] rfl rfl rfl rfl (two_of HT_.out (by kernel_rfl)) (by decide) (by decide) (fun K hK => ?_) (fun K hK => ?_)
            · skip
              refine box_step ?hg (N := 6) ?hd (cs := #[.int .i64 0, .int .i64 0, .string (⟨#[]⟩ : ByteArray)]) (t := 25) ?hr ?_; (case hd => rfl); (case hg => rfl); (case hr => first | (go_simp; done) | (go_simp; rfl))
              intro gb327 hg w24 hbox hb
              have HS0_ := (hb.cell (World.block_lt_of_cell? _ _ (hHeld.1))).trans (hHeld.1)
              have HS1_ := (hb.cell (World.block_lt_of_cell? _ _ (hHeld.2.1))).trans (hHeld.2.1)
              have HS2_ := (hb.cell (World.block_lt_of_cell? _ _ (hHeld.2.2.1))).trans (hHeld.2.2.1)
              have HS3_ := (hb.cell (World.block_lt_of_cell? _ _ (hHeld.2.2.2.1))).trans (hHeld.2.2.2.1)
              have HS4_ := (hb.cell (World.block_lt_of_cell? _ _ (hHeld.2.2.2.2.1))).trans (hHeld.2.2.2.2.1)
              have HS5_ := (hb.cell (World.block_lt_of_cell? _ _ (hHeld.2.2.2.2.2))).trans (hHeld.2.2.2.2.2)
              have n0_ := Aside0.mk (Kd.R_below (Kd.R_elderB (by (with_reducible repeat (first | apply Kd.R_alloc | apply Kd.R_drewN | apply Kd.R_drew)); exact HO321.out) gb327 (Nat.le_of_eq hg.symm)) hb)
              have n1_ := Aside0.mk (Kd.R_below (Kd.R_elderB (by (with_reducible repeat (first | apply Kd.R_alloc | apply Kd.R_drewN | apply Kd.R_drew)); exact HO324.out) gb327 (Nat.le_of_eq hg.symm)) hb)
              have n2_ := Aside0.mk (blk_below (g := gb317) (o := .cells #[.int .i64 a0_0, .int .i64 a0_1, .string a0_2] 25 (0, 0)) (by (with_reducible repeat (first | refine zN ?_ _ | refine zD ?_ | refine zA ?_ _)); exact BK317.out) hb)
              have n3_ := Aside0.mk (blk_below (g := gb318) (o := .cells #[.int .i64 a1_0, .int .i64 a1_1, .string a1_2] 25 (0, 0)) (by (with_reducible repeat (first | refine zN ?_ _ | refine zD ?_ | refine zA ?_ _)); exact BK318.out) hb)
              have n4_ := Aside0.mk (below_step (by repeat (first | (with_reducible first | exact HB.out | apply yA | apply yN | apply yD | refine below_set ?_ GE317.out | refine below_set ?_ GE318.out) | exact HB.out)) hb)
              have n5_ := Aside0.mk (hbox)
              have n6_ := Aside0.mk ((by rw [hg]; exact (below_size (by repeat (first | (with_reducible first | exact HB.out | apply yA | apply yN | apply yD | refine below_set ?_ GE317.out | refine below_set ?_ GE318.out) | exact HB.out))) : w.heap.size ≤ gb327))
              have n7_ := Aside0.mk ((by rw [hg]; exact (below_size (by repeat (first | (with_reducible first | exact HB.out | apply yA | apply yN | apply yD | refine below_set ?_ GE317.out | refine below_set ?_ GE318.out) | exact HB.out))) : w.heap.size ≤ gb327))
              have n8_ := Aside0.mk ((by rw [hg]; exact Nat.ne_of_lt (blk_lt (g := gb317) (o := .cells #[.int .i64 a0_0, .int .i64 a0_1, .string a0_2] 25 (0, 0)) (by (with_reducible repeat (first | refine zN ?_ _ | refine zD ?_ | refine zA ?_ _)); exact BK317.out)) : gb317 ≠ gb327))
              have n9_ := Aside0.mk ((by rw [hg]; exact Nat.ne_of_gt (blk_lt (g := gb317) (o := .cells #[.int .i64 a0_0, .int .i64 a0_1, .string a0_2] 25 (0, 0)) (by (with_reducible repeat (first | refine zN ?_ _ | refine zD ?_ | refine zA ?_ _)); exact BK317.out)) : gb327 ≠ gb317))
              have n10_ := Aside0.mk ((by rw [hg]; exact Nat.ne_of_lt (blk_lt (g := gb318) (o := .cells #[.int .i64 a1_0, .int .i64 a1_1, .string a1_2] 25 (0, 0)) (by (with_reducible repeat (first | refine zN ?_ _ | refine zD ?_ | refine zA ?_ _)); exact BK318.out)) : gb318 ≠ gb327))
              have n11_ := Aside0.mk ((by rw [hg]; exact Nat.ne_of_gt (blk_lt (g := gb318) (o := .cells #[.int .i64 a1_0, .int .i64 a1_1, .string a1_2] 25 (0, 0)) (by (with_reducible repeat (first | refine zN ?_ _ | refine zD ?_ | refine zA ?_ _)); exact BK318.out)) : gb327 ≠ gb318))
              clear HO321
              clear HO324
              clear BK317
              clear BK318
              clear HB
              have HO321 := n0_
              have HO324 := n1_
              have BK317 := n2_
              have BK318 := n3_
              have HB := n4_
              have BK327 := n5_
              have GW327 := n6_
              have GE327 := n7_
              have NB317_327 := n8_
              have NB327_317 := n9_
              have NB318_327 := n10_
              have NB327_318 := n11_
              clear n0_ n1_ n2_ n3_ n4_ n5_ n6_ n7_ n8_ n9_ n10_ n11_
              clear hb hbox hg
              refine hK.out _ _ ⟨HS0_, HS1_, HS2_, HS3_, HS4_, HS5_⟩ (fun hHeld => ?_)
              clear hK K
              refine norm_ (a' := ?_) ?_ ?_
              rotate_left
              · show Act.put _ (some 6) _ = _
                simp only [Act.put, List.setIfInBounds_toArray, List.set_cons_zero, List.set_cons_succ, i64_w, i32_w]
                rfl
              refine one_ (i := 7) (N := some 7) #[true, true, true, true, true, true, true, true, false, false] rfl rfl (one_of HT_.out (by kernel_rfl)) (by decide) (fun K hK => ?_)
              refine box_step ?hg (N := 7) ?hd (cs := #[.int .i64 0, .int .i64 0, .string (⟨#[]⟩ : ByteArray)]) (t := 25) ?hr ?_; (case hd => rfl); (case hg => rfl); (case hr => first | (go_simp; done) | (go_simp; rfl))
              intro gb328 hg w25 hbox hb
              have HS0_ := (hb.cell (World.block_lt_of_cell? _ _ (hHeld.1))).trans (hHeld.1)
              have HS1_ := (hb.cell (World.block_lt_of_cell? _ _ (hHeld.2.1))).trans (hHeld.2.1)
              have HS2_ := (hb.cell (World.block_lt_of_cell? _ _ (hHeld.2.2.1))).trans (hHeld.2.2.1)
              have HS3_ := (hb.cell (World.block_lt_of_cell? _ _ (hHeld.2.2.2.1))).trans (hHeld.2.2.2.1)
              have HS4_ := (hb.cell (World.block_lt_of_cell? _ _ (hHeld.2.2.2.2.1))).trans (hHeld.2.2.2.2.1)
              have HS5_ := (hb.cell (World.block_lt_of_cell? _ _ (hHeld.2.2.2.2.2))).trans (hHeld.2.2.2.2.2)
              have n0_ := Aside0.mk (Kd.R_below (Kd.R_elderB (by (with_reducible repeat (first | apply Kd.R_alloc | apply Kd.R_drewN | apply Kd.R_drew)); exact HO321.out) gb328 (Nat.le_of_eq hg.symm)) hb)
              have n1_ := Aside0.mk (Kd.R_below (Kd.R_elderB (by (with_reducible repeat (first | apply Kd.R_alloc | apply Kd.R_drewN | apply Kd.R_drew)); exact HO324.out) gb328 (Nat.le_of_eq hg.symm)) hb)
              have n2_ := Aside0.mk (blk_below (g := gb317) (o := .cells #[.int .i64 a0_0, .int .i64 a0_1, .string a0_2] 25 (0, 0)) (by (with_reducible repeat (first | refine zN ?_ _ | refine zD ?_ | refine zA ?_ _)); exact BK317.out) hb)
              have n3_ := Aside0.mk (blk_below (g := gb318) (o := .cells #[.int .i64 a1_0, .int .i64 a1_1, .string a1_2] 25 (0, 0)) (by (with_reducible repeat (first | refine zN ?_ _ | refine zD ?_ | refine zA ?_ _)); exact BK318.out) hb)
              have n4_ := Aside0.mk (blk_below (g := gb327) (o := .cells #[.int .i64 0, .int .i64 0, .string (⟨#[]⟩ : ByteArray)] 25 (0, 0)) (by (with_reducible repeat (first | refine zN ?_ _ | refine zD ?_ | refine zA ?_ _)); exact BK327.out) hb)
              have n5_ := Aside0.mk (below_step (by repeat (first | (with_reducible first | exact HB.out | apply yA | apply yN | apply yD | refine below_set ?_ GE317.out | refine below_set ?_ GE318.out | refine below_set ?_ GE327.out) | exact HB.out)) hb)
              have n6_ := Aside0.mk (hbox)
              have n7_ := Aside0.mk ((by rw [hg]; exact (below_size (by repeat (first | (with_reducible first | exact HB.out | apply yA | apply yN | apply yD | refine below_set ?_ GE317.out | refine below_set ?_ GE318.out | refine below_set ?_ GE327.out) | exact HB.out))) : w.heap.size ≤ gb328))
              have n8_ := Aside0.mk ((by rw [hg]; exact (below_size (by repeat (first | (with_reducible first | exact HB.out | apply yA | apply yN | apply yD | refine below_set ?_ GE317.out | refine below_set ?_ GE318.out | refine below_set ?_ GE327.out) | exact HB.out))) : w.heap.size ≤ gb328))
              have n9_ := Aside0.mk ((by rw [hg]; exact Nat.ne_of_lt (blk_lt (g := gb317) (o := .cells #[.int .i64 a0_0, .int .i64 a0_1, .string a0_2] 25 (0, 0)) (by (with_reducible repeat (first | refine zN ?_ _ | refine zD ?_ | refine zA ?_ _)); exact BK317.out)) : gb317 ≠ gb328))
              have n10_ := Aside0.mk ((by rw [hg]; exact Nat.ne_of_gt (blk_lt (g := gb317) (o := .cells #[.int .i64 a0_0, .int .i64 a0_1, .string a0_2] 25 (0, 0)) (by (with_reducible repeat (first | refine zN ?_ _ | refine zD ?_ | refine zA ?_ _)); exact BK317.out)) : gb328 ≠ gb317))
              have n11_ := Aside0.mk ((by rw [hg]; exact Nat.ne_of_lt (blk_lt (g := gb318) (o := .cells #[.int .i64 a1_0, .int .i64 a1_1, .string a1_2] 25 (0, 0)) (by (with_reducible repeat (first | refine zN ?_ _ | refine zD ?_ | refine zA ?_ _)); exact BK318.out)) : gb318 ≠ gb328))
              have n12_ := Aside0.mk ((by rw [hg]; exact Nat.ne_of_gt (blk_lt (g := gb318) (o := .cells #[.int .i64 a1_0, .int .i64 a1_1, .string a1_2] 25 (0, 0)) (by (with_reducible repeat (first | refine zN ?_ _ | refine zD ?_ | refine zA ?_ _)); exact BK318.out)) : gb328 ≠ gb318))
              have n13_ := Aside0.mk ((by rw [hg]; exact Nat.ne_of_lt (blk_lt (g := gb327) (o := .cells #[.int .i64 0, .int .i64 0, .string (⟨#[]⟩ : ByteArray)] 25 (0, 0)) (by (with_reducible repeat (first | refine zN ?_ _ | refine zD ?_ | refine zA ?_ _)); exact BK327.out)) : gb327 ≠ gb328))
              have n14_ := Aside0.mk ((by rw [hg]; exact Nat.ne_of_gt (blk_lt (g := gb327) (o := .cells #[.int .i64 0, .int .i64 0, .string (⟨#[]⟩ : ByteArray)] 25 (0, 0)) (by (with_reducible repeat (first | refine zN ?_ _ | refine zD ?_ | refine zA ?_ _)); exact BK327.out)) : gb328 ≠ gb327))
              clear HO321
              clear HO324
              clear BK317
              clear BK318
              clear BK327
              clear HB
              have HO321 := n0_
              have HO324 := n1_
              have BK317 := n2_
              have BK318 := n3_
              have BK327 := n4_
              have HB := n5_
              have BK328 := n6_
              have GW328 := n7_
              have GE328 := n8_
              have NB317_328 := n9_
              have NB328_317 := n10_
              have NB318_328 := n11_
              have NB328_318 := n12_
              have NB327_328 := n13_
              have NB328_327 := n14_
              clear n0_ n1_ n2_ n3_ n4_ n5_ n6_ n7_ n8_ n9_ n10_ n11_ n12_ n13_ n14_
              clear hb hbox hg
              refine hK.out _ _ ⟨HS0_, HS1_, HS2_, HS3_, HS4_, HS5_⟩ (fun hHeld => ?_)
              clear hK K
              refine norm_ (a' := ?_) ?_ ?_
              rotate_left
              · show Act.put _ (some 7) _ = _
                simp only [Act.put, List.setIfInBounds_toArray, List.set_cons_zero, List.set_cons_succ, i64_w, i32_w]
                rfl
              exact norm_ (by simp only [putAll, Act.put, List.setIfInBounds_toArray, List.set_cons_zero, List.set_cons_succ]) (hCont (gb327, gb328) _ ⟨hHeld, (by (with_reducible repeat (first | apply Kd.R_alloc | apply Kd.R_drewN | apply Kd.R_drew)); exact Kd.R_mono HO321.out (fun _ hk => ⟨hk.1.1.2, ⟨hk.1.1.1.1.2, ⟨hk.1.1.1.2, ⟨hk.1.2, hk.2⟩⟩⟩⟩)), (by (with_reducible repeat (first | apply Kd.R_alloc | apply Kd.R_drewN | apply Kd.R_drew)); exact Kd.R_mono HO324.out (fun _ hk => ⟨hk.1.1.1.1.2, ⟨hk.1.1.1.2, ⟨hk.1.1.2, ⟨hk.1.2, hk.2⟩⟩⟩⟩)), (by (with_reducible repeat (first | refine zN ?_ _ | refine zD ?_ | refine zA ?_ _)); exact BK317.out), (by (with_reducible repeat (first | refine zN ?_ _ | refine zD ?_ | refine zA ?_ _)); exact BK318.out), (by (with_reducible repeat (first | refine zN ?_ _ | refine zD ?_ | refine zA ?_ _)); exact BK327.out), (by (with_reducible repeat (first | refine zN ?_ _ | refine zD ?_ | refine zA ?_ _)); exact BK328.out), GW327.out, GE327.out, NB317_327.out, NB327_317.out, NB318_327.out, NB327_318.out, NB328_327.out, NB327_328.out, GW328.out, GE328.out, NB317_328.out, NB328_317.out, NB318_328.out, NB328_318.out, (by repeat (first | (with_reducible first | exact HB.out | apply yA | apply yN | apply yD | refine below_set ?_ GE317.out | refine below_set ?_ GE318.out | refine below_set ?_ GE327.out | refine below_set ?_ GE328.out) | exact HB.out))⟩)
            · skip
              refine box_step ?hg (N := 7) ?hd (cs := #[.int .i64 0, .int .i64 0, .string (⟨#[]⟩ : ByteArray)]) (t := 25) ?hr ?_; (case hd => rfl); (case hg => rfl); (case hr => first | (go_simp; done) | (go_simp; rfl))
              intro gb328 hg w24 hbox hb
              have HS0_ := (hb.cell (World.block_lt_of_cell? _ _ (hHeld.1))).trans (hHeld.1)
              have HS1_ := (hb.cell (World.block_lt_of_cell? _ _ (hHeld.2.1))).trans (hHeld.2.1)
              have HS2_ := (hb.cell (World.block_lt_of_cell? _ _ (hHeld.2.2.1))).trans (hHeld.2.2.1)
              have HS3_ := (hb.cell (World.block_lt_of_cell? _ _ (hHeld.2.2.2.1))).trans (hHeld.2.2.2.1)
              have HS4_ := (hb.cell (World.block_lt_of_cell? _ _ (hHeld.2.2.2.2.1))).trans (hHeld.2.2.2.2.1)
              have HS5_ := (hb.cell (World.block_lt_of_cell? _ _ (hHeld.2.2.2.2.2))).trans (hHeld.2.2.2.2.2)
              have n0_ := Aside0.mk (Kd.R_below (Kd.R_elderB (by (with_reducible repeat (first | apply Kd.R_alloc | apply Kd.R_drewN | apply Kd.R_drew)); exact HO321.out) gb328 (Nat.le_of_eq hg.symm)) hb)
              have n1_ := Aside0.mk (Kd.R_below (Kd.R_elderB (by (with_reducible repeat (first | apply Kd.R_alloc | apply Kd.R_drewN | apply Kd.R_drew)); exact HO324.out) gb328 (Nat.le_of_eq hg.symm)) hb)
              have n2_ := Aside0.mk (blk_below (g := gb317) (o := .cells #[.int .i64 a0_0, .int .i64 a0_1, .string a0_2] 25 (0, 0)) (by (with_reducible repeat (first | refine zN ?_ _ | refine zD ?_ | refine zA ?_ _)); exact BK317.out) hb)
              have n3_ := Aside0.mk (blk_below (g := gb318) (o := .cells #[.int .i64 a1_0, .int .i64 a1_1, .string a1_2] 25 (0, 0)) (by (with_reducible repeat (first | refine zN ?_ _ | refine zD ?_ | refine zA ?_ _)); exact BK318.out) hb)
              have n4_ := Aside0.mk (below_step (by repeat (first | (with_reducible first | exact HB.out | apply yA | apply yN | apply yD | refine below_set ?_ GE317.out | refine below_set ?_ GE318.out) | exact HB.out)) hb)
              have n5_ := Aside0.mk (hbox)
              have n6_ := Aside0.mk ((by rw [hg]; exact (below_size (by repeat (first | (with_reducible first | exact HB.out | apply yA | apply yN | apply yD | refine below_set ?_ GE317.out | refine below_set ?_ GE318.out) | exact HB.out))) : w.heap.size ≤ gb328))
              have n7_ := Aside0.mk ((by rw [hg]; exact (below_size (by repeat (first | (with_reducible first | exact HB.out | apply yA | apply yN | apply yD | refine below_set ?_ GE317.out | refine below_set ?_ GE318.out) | exact HB.out))) : w.heap.size ≤ gb328))
              have n8_ := Aside0.mk ((by rw [hg]; exact Nat.ne_of_lt (blk_lt (g := gb317) (o := .cells #[.int .i64 a0_0, .int .i64 a0_1, .string a0_2] 25 (0, 0)) (by (with_reducible repeat (first | refine zN ?_ _ | refine zD ?_ | refine zA ?_ _)); exact BK317.out)) : gb317 ≠ gb328))
              have n9_ := Aside0.mk ((by rw [hg]; exact Nat.ne_of_gt (blk_lt (g := gb317) (o := .cells #[.int .i64 a0_0, .int .i64 a0_1, .string a0_2] 25 (0, 0)) (by (with_reducible repeat (first | refine zN ?_ _ | refine zD ?_ | refine zA ?_ _)); exact BK317.out)) : gb328 ≠ gb317))
              have n10_ := Aside0.mk ((by rw [hg]; exact Nat.ne_of_lt (blk_lt (g := gb318) (o := .cells #[.int .i64 a1_0, .int .i64 a1_1, .string a1_2] 25 (0, 0)) (by (with_reducible repeat (first | refine zN ?_ _ | refine zD ?_ | refine zA ?_ _)); exact BK318.out)) : gb318 ≠ gb328))
              have n11_ := Aside0.mk ((by rw [hg]; exact Nat.ne_of_gt (blk_lt (g := gb318) (o := .cells #[.int .i64 a1_0, .int .i64 a1_1, .string a1_2] 25 (0, 0)) (by (with_reducible repeat (first | refine zN ?_ _ | refine zD ?_ | refine zA ?_ _)); exact BK318.out)) : gb328 ≠ gb318))
              clear HO321
              clear HO324
              clear BK317
              clear BK318
              clear HB
              have HO321 := n0_
              have HO324 := n1_
              have BK317 := n2_
              have BK318 := n3_
              have HB := n4_
              have BK328 := n5_
              have GW328 := n6_
              have GE328 := n7_
              have NB317_328 := n8_
              have NB328_317 := n9_
              have NB318_328 := n10_
              have NB328_318 := n11_
              clear n0_ n1_ n2_ n3_ n4_ n5_ n6_ n7_ n8_ n9_ n10_ n11_
              clear hb hbox hg
              refine hK.out _ _ ⟨HS0_, HS1_, HS2_, HS3_, HS4_, HS5_⟩ (fun hHeld => ?_)
              clear hK K
              refine norm_ (a' := ?_) ?_ ?_
              rotate_left
              · show Act.put _ (some 7) _ = _
                simp only [Act.put, List.setIfInBounds_toArray, List.set_cons_zero, List.set_cons_succ, i64_w, i32_w]
                rfl
              refine one_ (i := 6) (N := some 6) #[true, true, true, true, true, true, true, true, false, false] rfl rfl (one_of HT_.out (by kernel_rfl)) (by decide) (fun K hK => ?_)
              refine box_step ?hg (N := 6) ?hd (cs := #[.int .i64 0, .int .i64 0, .string (⟨#[]⟩ : ByteArray)]) (t := 25) ?hr ?_; (case hd => rfl); (case hg => rfl); (case hr => first | (go_simp; done) | (go_simp; rfl))
              intro gb327 hg w25 hbox hb
              have HS0_ := (hb.cell (World.block_lt_of_cell? _ _ (hHeld.1))).trans (hHeld.1)
              have HS1_ := (hb.cell (World.block_lt_of_cell? _ _ (hHeld.2.1))).trans (hHeld.2.1)
              have HS2_ := (hb.cell (World.block_lt_of_cell? _ _ (hHeld.2.2.1))).trans (hHeld.2.2.1)
              have HS3_ := (hb.cell (World.block_lt_of_cell? _ _ (hHeld.2.2.2.1))).trans (hHeld.2.2.2.1)
              have HS4_ := (hb.cell (World.block_lt_of_cell? _ _ (hHeld.2.2.2.2.1))).trans (hHeld.2.2.2.2.1)
              have HS5_ := (hb.cell (World.block_lt_of_cell? _ _ (hHeld.2.2.2.2.2))).trans (hHeld.2.2.2.2.2)
              have n0_ := Aside0.mk (Kd.R_below (Kd.R_elderB (by (with_reducible repeat (first | apply Kd.R_alloc | apply Kd.R_drewN | apply Kd.R_drew)); exact HO321.out) gb327 (Nat.le_of_eq hg.symm)) hb)
              have n1_ := Aside0.mk (Kd.R_below (Kd.R_elderB (by (with_reducible repeat (first | apply Kd.R_alloc | apply Kd.R_drewN | apply Kd.R_drew)); exact HO324.out) gb327 (Nat.le_of_eq hg.symm)) hb)
              have n2_ := Aside0.mk (blk_below (g := gb317) (o := .cells #[.int .i64 a0_0, .int .i64 a0_1, .string a0_2] 25 (0, 0)) (by (with_reducible repeat (first | refine zN ?_ _ | refine zD ?_ | refine zA ?_ _)); exact BK317.out) hb)
              have n3_ := Aside0.mk (blk_below (g := gb318) (o := .cells #[.int .i64 a1_0, .int .i64 a1_1, .string a1_2] 25 (0, 0)) (by (with_reducible repeat (first | refine zN ?_ _ | refine zD ?_ | refine zA ?_ _)); exact BK318.out) hb)
              have n4_ := Aside0.mk (blk_below (g := gb328) (o := .cells #[.int .i64 0, .int .i64 0, .string (⟨#[]⟩ : ByteArray)] 25 (0, 0)) (by (with_reducible repeat (first | refine zN ?_ _ | refine zD ?_ | refine zA ?_ _)); exact BK328.out) hb)
              have n5_ := Aside0.mk (below_step (by repeat (first | (with_reducible first | exact HB.out | apply yA | apply yN | apply yD | refine below_set ?_ GE317.out | refine below_set ?_ GE318.out | refine below_set ?_ GE328.out) | exact HB.out)) hb)
              have n6_ := Aside0.mk (hbox)
              have n7_ := Aside0.mk ((by rw [hg]; exact (below_size (by repeat (first | (with_reducible first | exact HB.out | apply yA | apply yN | apply yD | refine below_set ?_ GE317.out | refine below_set ?_ GE318.out | refine below_set ?_ GE328.out) | exact HB.out))) : w.heap.size ≤ gb327))
              have n8_ := Aside0.mk ((by rw [hg]; exact (below_size (by repeat (first | (with_reducible first | exact HB.out | apply yA | apply yN | apply yD | refine below_set ?_ GE317.out | refine below_set ?_ GE318.out | refine below_set ?_ GE328.out) | exact HB.out))) : w.heap.size ≤ gb327))
              have n9_ := Aside0.mk ((by rw [hg]; exact Nat.ne_of_lt (blk_lt (g := gb317) (o := .cells #[.int .i64 a0_0, .int .i64 a0_1, .string a0_2] 25 (0, 0)) (by (with_reducible repeat (first | refine zN ?_ _ | refine zD ?_ | refine zA ?_ _)); exact BK317.out)) : gb317 ≠ gb327))
              have n10_ := Aside0.mk ((by rw [hg]; exact Nat.ne_of_gt (blk_lt (g := gb317) (o := .cells #[.int .i64 a0_0, .int .i64 a0_1, .string a0_2] 25 (0, 0)) (by (with_reducible repeat (first | refine zN ?_ _ | refine zD ?_ | refine zA ?_ _)); exact BK317.out)) : gb327 ≠ gb317))
              have n11_ := Aside0.mk ((by rw [hg]; exact Nat.ne_of_lt (blk_lt (g := gb318) (o := .cells #[.int .i64 a1_0, .int .i64 a1_1, .string a1_2] 25 (0, 0)) (by (with_reducible repeat (first | refine zN ?_ _ | refine zD ?_ | refine zA ?_ _)); exact BK318.out)) : gb318 ≠ gb327))
              have n12_ := Aside0.mk ((by rw [hg]; exact Nat.ne_of_gt (blk_lt (g := gb318) (o := .cells #[.int .i64 a1_0, .int .i64 a1_1, .string a1_2] 25 (0, 0)) (by (with_reducible repeat (first | refine zN ?_ _ | refine zD ?_ | refine zA ?_ _)); exact BK318.out)) : gb327 ≠ gb318))
              have n13_ := Aside0.mk ((by rw [hg]; exact Nat.ne_of_lt (blk_lt (g := gb328) (o := .cells #[.int .i64 0, .int .i64 0, .string (⟨#[]⟩ : ByteArray)] 25 (0, 0)) (by (with_reducible repeat (first | refine zN ?_ _ | refine zD ?_ | refine zA ?_ _)); exact BK328.out)) : gb328 ≠ gb327))
              have n14_ := Aside0.mk ((by rw [hg]; exact Nat.ne_of_gt (blk_lt (g := gb328) (o := .cells #[.int .i64 0, .int .i64 0, .string (⟨#[]⟩ : ByteArray)] 25 (0, 0)) (by (with_reducible repeat (first | refine zN ?_ _ | refine zD ?_ | refine zA ?_ _)); exact BK328.out)) : gb327 ≠ gb328))
              clear HO321
              clear HO324
              clear BK317
              clear BK318
              clear BK328
              clear HB
              have HO321 := n0_
              have HO324 := n1_
              have BK317 := n2_
              have BK318 := n3_
              have BK328 := n4_
              have HB := n5_
              have BK327 := n6_
              have GW327 := n7_
              have GE327 := n8_
              have NB317_327 := n9_
              have NB327_317 := n10_
              have NB318_327 := n11_
              have NB327_318 := n12_
              have NB328_327 := n13_
              have NB327_328 := n14_
              clear n0_ n1_ n2_ n3_ n4_ n5_ n6_ n7_ n8_ n9_ n10_ n11_ n12_ n13_ n14_
              clear hb hbox hg
              refine hK.out _ _ ⟨HS0_, HS1_, HS2_, HS3_, HS4_, HS5_⟩ (fun hHeld => ?_)
              clear hK K
              refine norm_ (a' := ?_) ?_ ?_
              rotate_left
              · show Act.put _ (some 6) _ = _
                simp only [Act.put, List.setIfInBounds_toArray, List.set_cons_zero, List.set_cons_succ, i64_w, i32_w]
                rfl
              exact norm_ (by simp only [putAll, Act.put, List.setIfInBounds_toArray, List.set_cons_zero, List.set_cons_succ]) (hCont (gb327, gb328) _ ⟨hHeld, (by (with_reducible repeat (first | apply Kd.R_alloc | apply Kd.R_drewN | apply Kd.R_drew)); exact Kd.R_mono HO321.out (fun _ hk => ⟨hk.1.1.2, ⟨hk.1.1.1.1.2, ⟨hk.1.1.1.2, ⟨hk.2, hk.1.2⟩⟩⟩⟩)), (by (with_reducible repeat (first | apply Kd.R_alloc | apply Kd.R_drewN | apply Kd.R_drew)); exact Kd.R_mono HO324.out (fun _ hk => ⟨hk.1.1.1.1.2, ⟨hk.1.1.1.2, ⟨hk.1.1.2, ⟨hk.2, hk.1.2⟩⟩⟩⟩)), (by (with_reducible repeat (first | refine zN ?_ _ | refine zD ?_ | refine zA ?_ _)); exact BK317.out), (by (with_reducible repeat (first | refine zN ?_ _ | refine zD ?_ | refine zA ?_ _)); exact BK318.out), (by (with_reducible repeat (first | refine zN ?_ _ | refine zD ?_ | refine zA ?_ _)); exact BK327.out), (by (with_reducible repeat (first | refine zN ?_ _ | refine zD ?_ | refine zA ?_ _)); exact BK328.out), GW327.out, GE327.out, NB317_327.out, NB327_317.out, NB318_327.out, NB327_318.out, NB328_327.out, NB327_328.out, GW328.out, GE328.out, NB317_328.out, NB328_317.out, NB318_328.out, NB328_318.out, (by repeat (first | (with_reducible first | exact HB.out | apply yA | apply yN | apply yD | refine below_set ?_ GE317.out | refine below_set ?_ GE318.out | refine below_set ?_ GE328.out | refine below_set ?_ GE327.out) | exact HB.out))⟩)
          rintro ⟨gb327, gb328⟩ w26 ⟨hS_, h0_, h1_, h2_, h3_, h4_, h5_, h6_, h7_, h8_, h9_, h10_, h11_, h12_, h13_, h14_, h15_, h16_, h17_, h18_, h19_, h20_⟩
          have n0_ : Aside0 (Kd.R k25 25 w26 w.heap.size (fun k_ => some k_ ≠ (.slice (some ad325) t322.length co23 : Value).ownBlock ∧ k_ ≠ gb317 ∧ k_ ≠ gb318 ∧ k_ ≠ gb327 ∧ k_ ≠ gb328) (.slice Ao20 y319.length co20) y319) := ⟨h0_⟩
          have n1_ : Aside0 (Kd.R k25 25 w26 w.heap.size (fun k_ => some k_ ≠ (.slice Ao20 y319.length co20 : Value).ownBlock ∧ k_ ≠ gb317 ∧ k_ ≠ gb318 ∧ k_ ≠ gb327 ∧ k_ ≠ gb328) (.slice (some ad325) t322.length co23) t322) := ⟨h1_⟩
          have n2_ : Aside0 (w26.heap[gb317]? = some (.cells #[.int .i64 a0_0, .int .i64 a0_1, .string a0_2] 25 (0, 0))) := ⟨h2_⟩
          have n3_ : Aside0 (w26.heap[gb318]? = some (.cells #[.int .i64 a1_0, .int .i64 a1_1, .string a1_2] 25 (0, 0))) := ⟨h3_⟩
          have n4_ : Aside0 (w26.heap[gb327]? = some (.cells #[.int .i64 0, .int .i64 0, .string (⟨#[]⟩ : ByteArray)] 25 (0, 0))) := ⟨h4_⟩
          have n5_ : Aside0 (w26.heap[gb328]? = some (.cells #[.int .i64 0, .int .i64 0, .string (⟨#[]⟩ : ByteArray)] 25 (0, 0))) := ⟨h5_⟩
          have n6_ : Aside0 (w.heap.size ≤ gb327) := ⟨h6_⟩
          have n7_ : Aside0 (w.heap.size ≤ gb327) := ⟨h7_⟩
          have n8_ : Aside0 (gb317 ≠ gb327) := ⟨h8_⟩
          have n9_ : Aside0 (gb327 ≠ gb317) := ⟨h9_⟩
          have n10_ : Aside0 (gb318 ≠ gb327) := ⟨h10_⟩
          have n11_ : Aside0 (gb327 ≠ gb318) := ⟨h11_⟩
          have n12_ : Aside0 (gb328 ≠ gb327) := ⟨h12_⟩
          have n13_ : Aside0 (gb327 ≠ gb328) := ⟨h13_⟩
          have n14_ : Aside0 (w.heap.size ≤ gb328) := ⟨h14_⟩
          have n15_ : Aside0 (w.heap.size ≤ gb328) := ⟨h15_⟩
          have n16_ : Aside0 (gb317 ≠ gb328) := ⟨h16_⟩
          have n17_ : Aside0 (gb328 ≠ gb317) := ⟨h17_⟩
          have n18_ : Aside0 (gb318 ≠ gb328) := ⟨h18_⟩
          have n19_ : Aside0 (gb328 ≠ gb318) := ⟨h19_⟩
          have n20_ : Aside0 (Below w.heap.size w w26) := ⟨h20_⟩
          clear HO321
          clear HO324
          clear BK317
          clear BK318
          clear HB
          clear h0_ h1_ h2_ h3_ h4_ h5_ h6_ h7_ h8_ h9_ h10_ h11_ h12_ h13_ h14_ h15_ h16_ h17_ h18_ h19_ h20_
          have HO321 := n0_
          have HO324 := n1_
          have BK317 := n2_
          have BK318 := n3_
          have BK327 := n4_
          have BK328 := n5_
          have GW327 := n6_
          have GE327 := n7_
          have NB317_327 := n8_
          have NB327_317 := n9_
          have NB318_327 := n10_
          have NB327_318 := n11_
          have NB328_327 := n12_
          have NB327_328 := n13_
          have GW328 := n14_
          have GE328 := n15_
          have NB317_328 := n16_
          have NB328_317 := n17_
          have NB318_328 := n18_
          have NB328_318 := n19_
          have HB := n20_
          clear n0_ n1_ n2_ n3_ n4_ n5_ n6_ n7_ n8_ n9_ n10_ n11_ n12_ n13_ n14_ n15_ n16_ n17_ n18_ n19_ n20_
          have hHeld : w26.cell? ad325 = some (.int .i64 ((rd_T25 t322 0).f0)) ∧ w26.cell? ⟨ad325.block, ad325.off + 1, none⟩ = some (.int .i64 ((rd_T25 t322 0).f1)) ∧ w26.cell? ⟨ad325.block, ad325.off + 2, none⟩ = some (.string ((rd_T25 t322 0).f2)) ∧ w26.cell? ⟨ad325.block, ad325.off + 3, none⟩ = some (.int .i64 ((rd_T25 t322 1).f0)) ∧ w26.cell? ⟨ad325.block, ad325.off + 3 + 1, none⟩ = some (.int .i64 ((rd_T25 t322 1).f1)) ∧ w26.cell? ⟨ad325.block, ad325.off + 3 + 2, none⟩ = some (.string ((rd_T25 t322 1).f2)) := hS_
          refine norm_ (a' := ?_) ?_ ?_
          rotate_left
          · simp only [putAll, Act.put, List.setIfInBounds_toArray, List.set_cons_zero, List.set_cons_succ]
            rfl
          refine one_ (i := 8) (N := none) #[true, true, true, true, true, true, true, true, true, false] rfl rfl (one_of HT_.out (by kernel_rfl)) (by decide) (fun K hK => ?_)
          have hs27 : w26.cell? ⟨gb327, 0, none⟩ = some (.int .i64 0) := (blk_cell BK327.out 0).trans rfl
          have hfs27 := blk_frozen BK327.out 0
          have hns27_0 := NB317_327.out
          have hns27_1 := NB318_327.out
          have hns27_3 := NB328_327.out
          have hms27_0 := NB327_317.out
          have hms27_1 := NB327_318.out
          have hms27_3 := NB327_328.out
          have hs28 : w26.cell? ⟨gb327, 1, none⟩ = some (.int .i64 0) := (blk_cell BK327.out 1).trans rfl
          have hfs28 := blk_frozen BK327.out 1
          have hns28_0 := NB317_327.out
          have hns28_1 := NB318_327.out
          have hns28_3 := NB328_327.out
          have hms28_0 := NB327_317.out
          have hms28_1 := NB327_318.out
          have hms28_3 := NB327_328.out
          have hs29 : w26.cell? ⟨gb327, 2, none⟩ = some (.string (⟨#[]⟩ : ByteArray)) := (blk_cell BK327.out 2).trans rfl
          have hfs29 := blk_frozen BK327.out 2
          have hns29_0 := NB317_327.out
          have hns29_1 := NB318_327.out
          have hns29_3 := NB328_327.out
          have hms29_0 := NB327_317.out
          have hms29_1 := NB327_318.out
          have hms29_3 := NB327_328.out
          refine skip_ (w1 := ?_) (by rfl) rfl ?_ ?_
          rotate_left
          · go_simp
            rfl
          refine hK.out _ _ ⟨((cell_far (p := ⟨gb327, _, none⟩) (by first | exact Kd.own_blk (Kd.R_away HO324.out (fun _ hk => hk.2.2.2.1)) | (rw [add_block]; exact Kd.own_blk (Kd.R_away HO324.out (fun _ hk => hk.2.2.2.1))) | (show (Addr.add _ _).block ≠ _; rw [add_block]; exact Kd.own_blk (Kd.R_away HO324.out (fun _ hk => hk.2.2.2.1))) | (dsimp only; exact Kd.own_blk (Kd.R_away HO324.out (fun _ hk => hk.2.2.2.1)))) _).trans (((cell_far (p := ⟨gb327, _, none⟩) (by first | exact Kd.own_blk (Kd.R_away HO324.out (fun _ hk => hk.2.2.2.1)) | (rw [add_block]; exact Kd.own_blk (Kd.R_away HO324.out (fun _ hk => hk.2.2.2.1))) | (show (Addr.add _ _).block ≠ _; rw [add_block]; exact Kd.own_blk (Kd.R_away HO324.out (fun _ hk => hk.2.2.2.1))) | (dsimp only; exact Kd.own_blk (Kd.R_away HO324.out (fun _ hk => hk.2.2.2.1)))) _).trans (((cell_far (p := ⟨gb327, _, none⟩) (by first | exact Kd.own_blk (Kd.R_away HO324.out (fun _ hk => hk.2.2.2.1)) | (rw [add_block]; exact Kd.own_blk (Kd.R_away HO324.out (fun _ hk => hk.2.2.2.1))) | (show (Addr.add _ _).block ≠ _; rw [add_block]; exact Kd.own_blk (Kd.R_away HO324.out (fun _ hk => hk.2.2.2.1))) | (dsimp only; exact Kd.own_blk (Kd.R_away HO324.out (fun _ hk => hk.2.2.2.1)))) _).trans (hHeld.1)))))), ((cell_far (p := ⟨gb327, _, none⟩) (by first | exact Kd.own_blk (Kd.R_away HO324.out (fun _ hk => hk.2.2.2.1)) | (rw [add_block]; exact Kd.own_blk (Kd.R_away HO324.out (fun _ hk => hk.2.2.2.1))) | (show (Addr.add _ _).block ≠ _; rw [add_block]; exact Kd.own_blk (Kd.R_away HO324.out (fun _ hk => hk.2.2.2.1))) | (dsimp only; exact Kd.own_blk (Kd.R_away HO324.out (fun _ hk => hk.2.2.2.1)))) _).trans (((cell_far (p := ⟨gb327, _, none⟩) (by first | exact Kd.own_blk (Kd.R_away HO324.out (fun _ hk => hk.2.2.2.1)) | (rw [add_block]; exact Kd.own_blk (Kd.R_away HO324.out (fun _ hk => hk.2.2.2.1))) | (show (Addr.add _ _).block ≠ _; rw [add_block]; exact Kd.own_blk (Kd.R_away HO324.out (fun _ hk => hk.2.2.2.1))) | (dsimp only; exact Kd.own_blk (Kd.R_away HO324.out (fun _ hk => hk.2.2.2.1)))) _).trans (((cell_far (p := ⟨gb327, _, none⟩) (by first | exact Kd.own_blk (Kd.R_away HO324.out (fun _ hk => hk.2.2.2.1)) | (rw [add_block]; exact Kd.own_blk (Kd.R_away HO324.out (fun _ hk => hk.2.2.2.1))) | (show (Addr.add _ _).block ≠ _; rw [add_block]; exact Kd.own_blk (Kd.R_away HO324.out (fun _ hk => hk.2.2.2.1))) | (dsimp only; exact Kd.own_blk (Kd.R_away HO324.out (fun _ hk => hk.2.2.2.1)))) _).trans (hHeld.2.1)))))), ((cell_far (p := ⟨gb327, _, none⟩) (by first | exact Kd.own_blk (Kd.R_away HO324.out (fun _ hk => hk.2.2.2.1)) | (rw [add_block]; exact Kd.own_blk (Kd.R_away HO324.out (fun _ hk => hk.2.2.2.1))) | (show (Addr.add _ _).block ≠ _; rw [add_block]; exact Kd.own_blk (Kd.R_away HO324.out (fun _ hk => hk.2.2.2.1))) | (dsimp only; exact Kd.own_blk (Kd.R_away HO324.out (fun _ hk => hk.2.2.2.1)))) _).trans (((cell_far (p := ⟨gb327, _, none⟩) (by first | exact Kd.own_blk (Kd.R_away HO324.out (fun _ hk => hk.2.2.2.1)) | (rw [add_block]; exact Kd.own_blk (Kd.R_away HO324.out (fun _ hk => hk.2.2.2.1))) | (show (Addr.add _ _).block ≠ _; rw [add_block]; exact Kd.own_blk (Kd.R_away HO324.out (fun _ hk => hk.2.2.2.1))) | (dsimp only; exact Kd.own_blk (Kd.R_away HO324.out (fun _ hk => hk.2.2.2.1)))) _).trans (((cell_far (p := ⟨gb327, _, none⟩) (by first | exact Kd.own_blk (Kd.R_away HO324.out (fun _ hk => hk.2.2.2.1)) | (rw [add_block]; exact Kd.own_blk (Kd.R_away HO324.out (fun _ hk => hk.2.2.2.1))) | (show (Addr.add _ _).block ≠ _; rw [add_block]; exact Kd.own_blk (Kd.R_away HO324.out (fun _ hk => hk.2.2.2.1))) | (dsimp only; exact Kd.own_blk (Kd.R_away HO324.out (fun _ hk => hk.2.2.2.1)))) _).trans (hHeld.2.2.1)))))), ((cell_far (p := ⟨gb327, _, none⟩) (by first | exact Kd.own_blk (Kd.R_away HO324.out (fun _ hk => hk.2.2.2.1)) | (rw [add_block]; exact Kd.own_blk (Kd.R_away HO324.out (fun _ hk => hk.2.2.2.1))) | (show (Addr.add _ _).block ≠ _; rw [add_block]; exact Kd.own_blk (Kd.R_away HO324.out (fun _ hk => hk.2.2.2.1))) | (dsimp only; exact Kd.own_blk (Kd.R_away HO324.out (fun _ hk => hk.2.2.2.1)))) _).trans (((cell_far (p := ⟨gb327, _, none⟩) (by first | exact Kd.own_blk (Kd.R_away HO324.out (fun _ hk => hk.2.2.2.1)) | (rw [add_block]; exact Kd.own_blk (Kd.R_away HO324.out (fun _ hk => hk.2.2.2.1))) | (show (Addr.add _ _).block ≠ _; rw [add_block]; exact Kd.own_blk (Kd.R_away HO324.out (fun _ hk => hk.2.2.2.1))) | (dsimp only; exact Kd.own_blk (Kd.R_away HO324.out (fun _ hk => hk.2.2.2.1)))) _).trans (((cell_far (p := ⟨gb327, _, none⟩) (by first | exact Kd.own_blk (Kd.R_away HO324.out (fun _ hk => hk.2.2.2.1)) | (rw [add_block]; exact Kd.own_blk (Kd.R_away HO324.out (fun _ hk => hk.2.2.2.1))) | (show (Addr.add _ _).block ≠ _; rw [add_block]; exact Kd.own_blk (Kd.R_away HO324.out (fun _ hk => hk.2.2.2.1))) | (dsimp only; exact Kd.own_blk (Kd.R_away HO324.out (fun _ hk => hk.2.2.2.1)))) _).trans (hHeld.2.2.2.1)))))), ((cell_far (p := ⟨gb327, _, none⟩) (by first | exact Kd.own_blk (Kd.R_away HO324.out (fun _ hk => hk.2.2.2.1)) | (rw [add_block]; exact Kd.own_blk (Kd.R_away HO324.out (fun _ hk => hk.2.2.2.1))) | (show (Addr.add _ _).block ≠ _; rw [add_block]; exact Kd.own_blk (Kd.R_away HO324.out (fun _ hk => hk.2.2.2.1))) | (dsimp only; exact Kd.own_blk (Kd.R_away HO324.out (fun _ hk => hk.2.2.2.1)))) _).trans (((cell_far (p := ⟨gb327, _, none⟩) (by first | exact Kd.own_blk (Kd.R_away HO324.out (fun _ hk => hk.2.2.2.1)) | (rw [add_block]; exact Kd.own_blk (Kd.R_away HO324.out (fun _ hk => hk.2.2.2.1))) | (show (Addr.add _ _).block ≠ _; rw [add_block]; exact Kd.own_blk (Kd.R_away HO324.out (fun _ hk => hk.2.2.2.1))) | (dsimp only; exact Kd.own_blk (Kd.R_away HO324.out (fun _ hk => hk.2.2.2.1)))) _).trans (((cell_far (p := ⟨gb327, _, none⟩) (by first | exact Kd.own_blk (Kd.R_away HO324.out (fun _ hk => hk.2.2.2.1)) | (rw [add_block]; exact Kd.own_blk (Kd.R_away HO324.out (fun _ hk => hk.2.2.2.1))) | (show (Addr.add _ _).block ≠ _; rw [add_block]; exact Kd.own_blk (Kd.R_away HO324.out (fun _ hk => hk.2.2.2.1))) | (dsimp only; exact Kd.own_blk (Kd.R_away HO324.out (fun _ hk => hk.2.2.2.1)))) _).trans (hHeld.2.2.2.2.1)))))), ((cell_far (p := ⟨gb327, _, none⟩) (by first | exact Kd.own_blk (Kd.R_away HO324.out (fun _ hk => hk.2.2.2.1)) | (rw [add_block]; exact Kd.own_blk (Kd.R_away HO324.out (fun _ hk => hk.2.2.2.1))) | (show (Addr.add _ _).block ≠ _; rw [add_block]; exact Kd.own_blk (Kd.R_away HO324.out (fun _ hk => hk.2.2.2.1))) | (dsimp only; exact Kd.own_blk (Kd.R_away HO324.out (fun _ hk => hk.2.2.2.1)))) _).trans (((cell_far (p := ⟨gb327, _, none⟩) (by first | exact Kd.own_blk (Kd.R_away HO324.out (fun _ hk => hk.2.2.2.1)) | (rw [add_block]; exact Kd.own_blk (Kd.R_away HO324.out (fun _ hk => hk.2.2.2.1))) | (show (Addr.add _ _).block ≠ _; rw [add_block]; exact Kd.own_blk (Kd.R_away HO324.out (fun _ hk => hk.2.2.2.1))) | (dsimp only; exact Kd.own_blk (Kd.R_away HO324.out (fun _ hk => hk.2.2.2.1)))) _).trans (((cell_far (p := ⟨gb327, _, none⟩) (by first | exact Kd.own_blk (Kd.R_away HO324.out (fun _ hk => hk.2.2.2.1)) | (rw [add_block]; exact Kd.own_blk (Kd.R_away HO324.out (fun _ hk => hk.2.2.2.1))) | (show (Addr.add _ _).block ≠ _; rw [add_block]; exact Kd.own_blk (Kd.R_away HO324.out (fun _ hk => hk.2.2.2.1))) | (dsimp only; exact Kd.own_blk (Kd.R_away HO324.out (fun _ hk => hk.2.2.2.1)))) _).trans (hHeld.2.2.2.2.2))))))⟩ (fun hHeld => ?_)
          clear hK K
          refine one_ (i := 9) (N := none) #[true, true, true, true, true, true, true, true, true, true] rfl rfl (one_of HT_.out (by kernel_rfl)) (by decide) (fun K hK => ?_)
          have hs30 : w26.cell? ⟨gb328, 0, none⟩ = some (.int .i64 0) := (blk_cell BK328.out 0).trans rfl
          have hfs30 := blk_frozen BK328.out 0
          have hns30_0 := NB317_328.out
          have hns30_1 := NB318_328.out
          have hns30_2 := NB327_328.out
          have hms30_0 := NB328_317.out
          have hms30_1 := NB328_318.out
          have hms30_2 := NB328_327.out
          have hs31 : w26.cell? ⟨gb328, 1, none⟩ = some (.int .i64 0) := (blk_cell BK328.out 1).trans rfl
          have hfs31 := blk_frozen BK328.out 1
          have hns31_0 := NB317_328.out
          have hns31_1 := NB318_328.out
          have hns31_2 := NB327_328.out
          have hms31_0 := NB328_317.out
          have hms31_1 := NB328_318.out
          have hms31_2 := NB328_327.out
          have hs32 : w26.cell? ⟨gb328, 2, none⟩ = some (.string (⟨#[]⟩ : ByteArray)) := (blk_cell BK328.out 2).trans rfl
          have hfs32 := blk_frozen BK328.out 2
          have hns32_0 := NB317_328.out
          have hns32_1 := NB318_328.out
          have hns32_2 := NB327_328.out
          have hms32_0 := NB328_317.out
          have hms32_1 := NB328_318.out
          have hms32_2 := NB328_327.out
          refine skip_ (w1 := ?_) (by rfl) rfl ?_ ?_
          rotate_left
          · go_simp
            rfl
          refine hK.out _ _ ⟨((cell_far (p := ⟨gb328, _, none⟩) (by first | exact Kd.own_blk (Kd.R_away HO324.out (fun _ hk => hk.2.2.2.2)) | (rw [add_block]; exact Kd.own_blk (Kd.R_away HO324.out (fun _ hk => hk.2.2.2.2))) | (show (Addr.add _ _).block ≠ _; rw [add_block]; exact Kd.own_blk (Kd.R_away HO324.out (fun _ hk => hk.2.2.2.2))) | (dsimp only; exact Kd.own_blk (Kd.R_away HO324.out (fun _ hk => hk.2.2.2.2)))) _).trans (((cell_far (p := ⟨gb328, _, none⟩) (by first | exact Kd.own_blk (Kd.R_away HO324.out (fun _ hk => hk.2.2.2.2)) | (rw [add_block]; exact Kd.own_blk (Kd.R_away HO324.out (fun _ hk => hk.2.2.2.2))) | (show (Addr.add _ _).block ≠ _; rw [add_block]; exact Kd.own_blk (Kd.R_away HO324.out (fun _ hk => hk.2.2.2.2))) | (dsimp only; exact Kd.own_blk (Kd.R_away HO324.out (fun _ hk => hk.2.2.2.2)))) _).trans (((cell_far (p := ⟨gb328, _, none⟩) (by first | exact Kd.own_blk (Kd.R_away HO324.out (fun _ hk => hk.2.2.2.2)) | (rw [add_block]; exact Kd.own_blk (Kd.R_away HO324.out (fun _ hk => hk.2.2.2.2))) | (show (Addr.add _ _).block ≠ _; rw [add_block]; exact Kd.own_blk (Kd.R_away HO324.out (fun _ hk => hk.2.2.2.2))) | (dsimp only; exact Kd.own_blk (Kd.R_away HO324.out (fun _ hk => hk.2.2.2.2)))) _).trans (hHeld.1)))))), ((cell_far (p := ⟨gb328, _, none⟩) (by first | exact Kd.own_blk (Kd.R_away HO324.out (fun _ hk => hk.2.2.2.2)) | (rw [add_block]; exact Kd.own_blk (Kd.R_away HO324.out (fun _ hk => hk.2.2.2.2))) | (show (Addr.add _ _).block ≠ _; rw [add_block]; exact Kd.own_blk (Kd.R_away HO324.out (fun _ hk => hk.2.2.2.2))) | (dsimp only; exact Kd.own_blk (Kd.R_away HO324.out (fun _ hk => hk.2.2.2.2)))) _).trans (((cell_far (p := ⟨gb328, _, none⟩) (by first | exact Kd.own_blk (Kd.R_away HO324.out (fun _ hk => hk.2.2.2.2)) | (rw [add_block]; exact Kd.own_blk (Kd.R_away HO324.out (fun _ hk => hk.2.2.2.2))) | (show (Addr.add _ _).block ≠ _; rw [add_block]; exact Kd.own_blk (Kd.R_away HO324.out (fun _ hk => hk.2.2.2.2))) | (dsimp only; exact Kd.own_blk (Kd.R_away HO324.out (fun _ hk => hk.2.2.2.2)))) _).trans (((cell_far (p := ⟨gb328, _, none⟩) (by first | exact Kd.own_blk (Kd.R_away HO324.out (fun _ hk => hk.2.2.2.2)) | (rw [add_block]; exact Kd.own_blk (Kd.R_away HO324.out (fun _ hk => hk.2.2.2.2))) | (show (Addr.add _ _).block ≠ _; rw [add_block]; exact Kd.own_blk (Kd.R_away HO324.out (fun _ hk => hk.2.2.2.2))) | (dsimp only; exact Kd.own_blk (Kd.R_away HO324.out (fun _ hk => hk.2.2.2.2)))) _).trans (hHeld.2.1)))))), ((cell_far (p := ⟨gb328, _, none⟩) (by first | exact Kd.own_blk (Kd.R_away HO324.out (fun _ hk => hk.2.2.2.2)) | (rw [add_block]; exact Kd.own_blk (Kd.R_away HO324.out (fun _ hk => hk.2.2.2.2))) | (show (Addr.add _ _).block ≠ _; rw [add_block]; exact Kd.own_blk (Kd.R_away HO324.out (fun _ hk => hk.2.2.2.2))) | (dsimp only; exact Kd.own_blk (Kd.R_away HO324.out (fun _ hk => hk.2.2.2.2)))) _).trans (((cell_far (p := ⟨gb328, _, none⟩) (by first | exact Kd.own_blk (Kd.R_away HO324.out (fun _ hk => hk.2.2.2.2)) | (rw [add_block]; exact Kd.own_blk (Kd.R_away HO324.out (fun _ hk => hk.2.2.2.2))) | (show (Addr.add _ _).block ≠ _; rw [add_block]; exact Kd.own_blk (Kd.R_away HO324.out (fun _ hk => hk.2.2.2.2))) | (dsimp only; exact Kd.own_blk (Kd.R_away HO324.out (fun _ hk => hk.2.2.2.2)))) _).trans (((cell_far (p := ⟨gb328, _, none⟩) (by first | exact Kd.own_blk (Kd.R_away HO324.out (fun _ hk => hk.2.2.2.2)) | (rw [add_block]; exact Kd.own_blk (Kd.R_away HO324.out (fun _ hk => hk.2.2.2.2))) | (show (Addr.add _ _).block ≠ _; rw [add_block]; exact Kd.own_blk (Kd.R_away HO324.out (fun _ hk => hk.2.2.2.2))) | (dsimp only; exact Kd.own_blk (Kd.R_away HO324.out (fun _ hk => hk.2.2.2.2)))) _).trans (hHeld.2.2.1)))))), ((cell_far (p := ⟨gb328, _, none⟩) (by first | exact Kd.own_blk (Kd.R_away HO324.out (fun _ hk => hk.2.2.2.2)) | (rw [add_block]; exact Kd.own_blk (Kd.R_away HO324.out (fun _ hk => hk.2.2.2.2))) | (show (Addr.add _ _).block ≠ _; rw [add_block]; exact Kd.own_blk (Kd.R_away HO324.out (fun _ hk => hk.2.2.2.2))) | (dsimp only; exact Kd.own_blk (Kd.R_away HO324.out (fun _ hk => hk.2.2.2.2)))) _).trans (((cell_far (p := ⟨gb328, _, none⟩) (by first | exact Kd.own_blk (Kd.R_away HO324.out (fun _ hk => hk.2.2.2.2)) | (rw [add_block]; exact Kd.own_blk (Kd.R_away HO324.out (fun _ hk => hk.2.2.2.2))) | (show (Addr.add _ _).block ≠ _; rw [add_block]; exact Kd.own_blk (Kd.R_away HO324.out (fun _ hk => hk.2.2.2.2))) | (dsimp only; exact Kd.own_blk (Kd.R_away HO324.out (fun _ hk => hk.2.2.2.2)))) _).trans (((cell_far (p := ⟨gb328, _, none⟩) (by first | exact Kd.own_blk (Kd.R_away HO324.out (fun _ hk => hk.2.2.2.2)) | (rw [add_block]; exact Kd.own_blk (Kd.R_away HO324.out (fun _ hk => hk.2.2.2.2))) | (show (Addr.add _ _).block ≠ _; rw [add_block]; exact Kd.own_blk (Kd.R_away HO324.out (fun _ hk => hk.2.2.2.2))) | (dsimp only; exact Kd.own_blk (Kd.R_away HO324.out (fun _ hk => hk.2.2.2.2)))) _).trans (hHeld.2.2.2.1)))))), ((cell_far (p := ⟨gb328, _, none⟩) (by first | exact Kd.own_blk (Kd.R_away HO324.out (fun _ hk => hk.2.2.2.2)) | (rw [add_block]; exact Kd.own_blk (Kd.R_away HO324.out (fun _ hk => hk.2.2.2.2))) | (show (Addr.add _ _).block ≠ _; rw [add_block]; exact Kd.own_blk (Kd.R_away HO324.out (fun _ hk => hk.2.2.2.2))) | (dsimp only; exact Kd.own_blk (Kd.R_away HO324.out (fun _ hk => hk.2.2.2.2)))) _).trans (((cell_far (p := ⟨gb328, _, none⟩) (by first | exact Kd.own_blk (Kd.R_away HO324.out (fun _ hk => hk.2.2.2.2)) | (rw [add_block]; exact Kd.own_blk (Kd.R_away HO324.out (fun _ hk => hk.2.2.2.2))) | (show (Addr.add _ _).block ≠ _; rw [add_block]; exact Kd.own_blk (Kd.R_away HO324.out (fun _ hk => hk.2.2.2.2))) | (dsimp only; exact Kd.own_blk (Kd.R_away HO324.out (fun _ hk => hk.2.2.2.2)))) _).trans (((cell_far (p := ⟨gb328, _, none⟩) (by first | exact Kd.own_blk (Kd.R_away HO324.out (fun _ hk => hk.2.2.2.2)) | (rw [add_block]; exact Kd.own_blk (Kd.R_away HO324.out (fun _ hk => hk.2.2.2.2))) | (show (Addr.add _ _).block ≠ _; rw [add_block]; exact Kd.own_blk (Kd.R_away HO324.out (fun _ hk => hk.2.2.2.2))) | (dsimp only; exact Kd.own_blk (Kd.R_away HO324.out (fun _ hk => hk.2.2.2.2)))) _).trans (hHeld.2.2.2.2.1)))))), ((cell_far (p := ⟨gb328, _, none⟩) (by first | exact Kd.own_blk (Kd.R_away HO324.out (fun _ hk => hk.2.2.2.2)) | (rw [add_block]; exact Kd.own_blk (Kd.R_away HO324.out (fun _ hk => hk.2.2.2.2))) | (show (Addr.add _ _).block ≠ _; rw [add_block]; exact Kd.own_blk (Kd.R_away HO324.out (fun _ hk => hk.2.2.2.2))) | (dsimp only; exact Kd.own_blk (Kd.R_away HO324.out (fun _ hk => hk.2.2.2.2)))) _).trans (((cell_far (p := ⟨gb328, _, none⟩) (by first | exact Kd.own_blk (Kd.R_away HO324.out (fun _ hk => hk.2.2.2.2)) | (rw [add_block]; exact Kd.own_blk (Kd.R_away HO324.out (fun _ hk => hk.2.2.2.2))) | (show (Addr.add _ _).block ≠ _; rw [add_block]; exact Kd.own_blk (Kd.R_away HO324.out (fun _ hk => hk.2.2.2.2))) | (dsimp only; exact Kd.own_blk (Kd.R_away HO324.out (fun _ hk => hk.2.2.2.2)))) _).trans (((cell_far (p := ⟨gb328, _, none⟩) (by first | exact Kd.own_blk (Kd.R_away HO324.out (fun _ hk => hk.2.2.2.2)) | (rw [add_block]; exact Kd.own_blk (Kd.R_away HO324.out (fun _ hk => hk.2.2.2.2))) | (show (Addr.add _ _).block ≠ _; rw [add_block]; exact Kd.own_blk (Kd.R_away HO324.out (fun _ hk => hk.2.2.2.2))) | (dsimp only; exact Kd.own_blk (Kd.R_away HO324.out (fun _ hk => hk.2.2.2.2)))) _).trans (hHeld.2.2.2.2.2))))))⟩ (fun hHeld => ?_)
          clear hK K
          refine done_ (done_of HT_.out (by kernel_rfl)) ?_
          have n0_ : Aside0 (Kd.R k25 25 ((((((w26.setCell ⟨gb327, 0, none⟩ (.int .i64 ((rd_T25 t322 0).f0))).setCell ⟨gb327, 1, none⟩ (.int .i64 ((rd_T25 t322 0).f1))).setCell ⟨gb327, 2, none⟩ (.string ((rd_T25 t322 0).f2))).setCell ⟨gb328, 0, none⟩ (.int .i64 ((rd_T25 t322 1).f0))).setCell ⟨gb328, 1, none⟩ (.int .i64 ((rd_T25 t322 1).f1))).setCell ⟨gb328, 2, none⟩ (.string ((rd_T25 t322 1).f2))) w.heap.size (fun k_ => some k_ ≠ (.slice (some ad325) t322.length co23 : Value).ownBlock ∧ k_ ≠ gb317 ∧ k_ ≠ gb318 ∧ k_ ≠ gb327 ∧ k_ ≠ gb328) (.slice Ao20 y319.length co20) y319) := ⟨by (with_reducible repeat (first | apply Kd.R_alloc | apply Kd.R_drewN | apply Kd.R_drew)); exact Kd.R_mono (Kd.R_far (p := ⟨gb328, 2, none⟩) (Kd.R_far (p := ⟨gb328, 1, none⟩) (Kd.R_far (p := ⟨gb328, 0, none⟩) (Kd.R_far (p := ⟨gb327, 2, none⟩) (Kd.R_far (p := ⟨gb327, 1, none⟩) (Kd.R_far (p := ⟨gb327, 0, none⟩) (Kd.R_mono (Kd.R_mono HO321.out (fun k_ hk => (⟨hk, hk.2.2.2.1⟩ : _ ∧ k_ ≠ gb327))) (fun k_ hk => (⟨hk, hk.1.2.2.2.2⟩ : _ ∧ k_ ≠ gb328))) (fun _ hk => hk.1.2) (.int .i64 ((rd_T25 t322 0).f0))) (fun _ hk => hk.1.2) (.int .i64 ((rd_T25 t322 0).f1))) (fun _ hk => hk.1.2) (.string ((rd_T25 t322 0).f2))) (fun _ hk => hk.2) (.int .i64 ((rd_T25 t322 1).f0))) (fun _ hk => hk.2) (.int .i64 ((rd_T25 t322 1).f1))) (fun _ hk => hk.2) (.string ((rd_T25 t322 1).f2))) (fun _ hk => ⟨hk.1.1.1, ⟨hk.1.1.2.1, ⟨hk.1.1.2.2.1, ⟨hk.1.1.2.2.2.1, hk.1.1.2.2.2.2⟩⟩⟩⟩)⟩
          have n1_ : Aside0 (Kd.R k25 25 ((((((w26.setCell ⟨gb327, 0, none⟩ (.int .i64 ((rd_T25 t322 0).f0))).setCell ⟨gb327, 1, none⟩ (.int .i64 ((rd_T25 t322 0).f1))).setCell ⟨gb327, 2, none⟩ (.string ((rd_T25 t322 0).f2))).setCell ⟨gb328, 0, none⟩ (.int .i64 ((rd_T25 t322 1).f0))).setCell ⟨gb328, 1, none⟩ (.int .i64 ((rd_T25 t322 1).f1))).setCell ⟨gb328, 2, none⟩ (.string ((rd_T25 t322 1).f2))) w.heap.size (fun k_ => some k_ ≠ (.slice Ao20 y319.length co20 : Value).ownBlock ∧ k_ ≠ gb317 ∧ k_ ≠ gb318 ∧ k_ ≠ gb327 ∧ k_ ≠ gb328) (.slice (some ad325) t322.length co23) t322) := ⟨by (with_reducible repeat (first | apply Kd.R_alloc | apply Kd.R_drewN | apply Kd.R_drew)); exact Kd.R_mono (Kd.R_far (p := ⟨gb328, 2, none⟩) (Kd.R_far (p := ⟨gb328, 1, none⟩) (Kd.R_far (p := ⟨gb328, 0, none⟩) (Kd.R_far (p := ⟨gb327, 2, none⟩) (Kd.R_far (p := ⟨gb327, 1, none⟩) (Kd.R_far (p := ⟨gb327, 0, none⟩) (Kd.R_mono (Kd.R_mono HO324.out (fun k_ hk => (⟨hk, hk.2.2.2.1⟩ : _ ∧ k_ ≠ gb327))) (fun k_ hk => (⟨hk, hk.1.2.2.2.2⟩ : _ ∧ k_ ≠ gb328))) (fun _ hk => hk.1.2) (.int .i64 ((rd_T25 t322 0).f0))) (fun _ hk => hk.1.2) (.int .i64 ((rd_T25 t322 0).f1))) (fun _ hk => hk.1.2) (.string ((rd_T25 t322 0).f2))) (fun _ hk => hk.2) (.int .i64 ((rd_T25 t322 1).f0))) (fun _ hk => hk.2) (.int .i64 ((rd_T25 t322 1).f1))) (fun _ hk => hk.2) (.string ((rd_T25 t322 1).f2))) (fun _ hk => ⟨hk.1.1.1, ⟨hk.1.1.2.1, ⟨hk.1.1.2.2.1, ⟨hk.1.1.2.2.2.1, hk.1.1.2.2.2.2⟩⟩⟩⟩)⟩
          have n2_ : Aside0 (((((((w26.setCell ⟨gb327, 0, none⟩ (.int .i64 ((rd_T25 t322 0).f0))).setCell ⟨gb327, 1, none⟩ (.int .i64 ((rd_T25 t322 0).f1))).setCell ⟨gb327, 2, none⟩ (.string ((rd_T25 t322 0).f2))).setCell ⟨gb328, 0, none⟩ (.int .i64 ((rd_T25 t322 1).f0))).setCell ⟨gb328, 1, none⟩ (.int .i64 ((rd_T25 t322 1).f1))).setCell ⟨gb328, 2, none⟩ (.string ((rd_T25 t322 1).f2))).heap[gb317]? = some (.cells #[.int .i64 a0_0, .int .i64 a0_1, .string a0_2] 25 (0, 0))) := ⟨by (with_reducible repeat (first | refine zN ?_ _ | refine zD ?_ | refine zA ?_ _)); refine blk_far ?_ NB317_328.out _; (with_reducible repeat (first | refine zN ?_ _ | refine zD ?_ | refine zA ?_ _)); refine blk_far ?_ NB317_328.out _; (with_reducible repeat (first | refine zN ?_ _ | refine zD ?_ | refine zA ?_ _)); refine blk_far ?_ NB317_328.out _; (with_reducible repeat (first | refine zN ?_ _ | refine zD ?_ | refine zA ?_ _)); refine blk_far ?_ NB317_327.out _; (with_reducible repeat (first | refine zN ?_ _ | refine zD ?_ | refine zA ?_ _)); refine blk_far ?_ NB317_327.out _; (with_reducible repeat (first | refine zN ?_ _ | refine zD ?_ | refine zA ?_ _)); refine blk_far ?_ NB317_327.out _; (with_reducible repeat (first | refine zN ?_ _ | refine zD ?_ | refine zA ?_ _)); exact BK317.out⟩
          have n3_ : Aside0 (((((((w26.setCell ⟨gb327, 0, none⟩ (.int .i64 ((rd_T25 t322 0).f0))).setCell ⟨gb327, 1, none⟩ (.int .i64 ((rd_T25 t322 0).f1))).setCell ⟨gb327, 2, none⟩ (.string ((rd_T25 t322 0).f2))).setCell ⟨gb328, 0, none⟩ (.int .i64 ((rd_T25 t322 1).f0))).setCell ⟨gb328, 1, none⟩ (.int .i64 ((rd_T25 t322 1).f1))).setCell ⟨gb328, 2, none⟩ (.string ((rd_T25 t322 1).f2))).heap[gb318]? = some (.cells #[.int .i64 a1_0, .int .i64 a1_1, .string a1_2] 25 (0, 0))) := ⟨by (with_reducible repeat (first | refine zN ?_ _ | refine zD ?_ | refine zA ?_ _)); refine blk_far ?_ NB318_328.out _; (with_reducible repeat (first | refine zN ?_ _ | refine zD ?_ | refine zA ?_ _)); refine blk_far ?_ NB318_328.out _; (with_reducible repeat (first | refine zN ?_ _ | refine zD ?_ | refine zA ?_ _)); refine blk_far ?_ NB318_328.out _; (with_reducible repeat (first | refine zN ?_ _ | refine zD ?_ | refine zA ?_ _)); refine blk_far ?_ NB318_327.out _; (with_reducible repeat (first | refine zN ?_ _ | refine zD ?_ | refine zA ?_ _)); refine blk_far ?_ NB318_327.out _; (with_reducible repeat (first | refine zN ?_ _ | refine zD ?_ | refine zA ?_ _)); refine blk_far ?_ NB318_327.out _; (with_reducible repeat (first | refine zN ?_ _ | refine zD ?_ | refine zA ?_ _)); exact BK318.out⟩
          have n4_ : Aside0 (((((((w26.setCell ⟨gb327, 0, none⟩ (.int .i64 ((rd_T25 t322 0).f0))).setCell ⟨gb327, 1, none⟩ (.int .i64 ((rd_T25 t322 0).f1))).setCell ⟨gb327, 2, none⟩ (.string ((rd_T25 t322 0).f2))).setCell ⟨gb328, 0, none⟩ (.int .i64 ((rd_T25 t322 1).f0))).setCell ⟨gb328, 1, none⟩ (.int .i64 ((rd_T25 t322 1).f1))).setCell ⟨gb328, 2, none⟩ (.string ((rd_T25 t322 1).f2))).heap[gb327]? = some (.cells #[.int .i64 ((rd_T25 t322 0).f0), .int .i64 ((rd_T25 t322 0).f1), .string ((rd_T25 t322 0).f2)] 25 (0, 0))) := ⟨by (with_reducible repeat (first | refine zN ?_ _ | refine zD ?_ | refine zA ?_ _)); refine blk_far ?_ NB327_328.out _; (with_reducible repeat (first | refine zN ?_ _ | refine zD ?_ | refine zA ?_ _)); refine blk_far ?_ NB327_328.out _; (with_reducible repeat (first | refine zN ?_ _ | refine zD ?_ | refine zA ?_ _)); refine blk_far ?_ NB327_328.out _; (with_reducible repeat (first | refine zN ?_ _ | refine zD ?_ | refine zA ?_ _)); refine blk_put (cs := #[.int .i64 ((rd_T25 t322 0).f0), .int .i64 ((rd_T25 t322 0).f1), .string (⟨#[]⟩ : ByteArray)]) ?_ 2 _ rfl; (with_reducible repeat (first | refine zN ?_ _ | refine zD ?_ | refine zA ?_ _)); refine blk_put (cs := #[.int .i64 ((rd_T25 t322 0).f0), .int .i64 0, .string (⟨#[]⟩ : ByteArray)]) ?_ 1 _ rfl; (with_reducible repeat (first | refine zN ?_ _ | refine zD ?_ | refine zA ?_ _)); refine blk_put (cs := #[.int .i64 0, .int .i64 0, .string (⟨#[]⟩ : ByteArray)]) ?_ 0 _ rfl; (with_reducible repeat (first | refine zN ?_ _ | refine zD ?_ | refine zA ?_ _)); exact BK327.out⟩
          have n5_ : Aside0 (((((((w26.setCell ⟨gb327, 0, none⟩ (.int .i64 ((rd_T25 t322 0).f0))).setCell ⟨gb327, 1, none⟩ (.int .i64 ((rd_T25 t322 0).f1))).setCell ⟨gb327, 2, none⟩ (.string ((rd_T25 t322 0).f2))).setCell ⟨gb328, 0, none⟩ (.int .i64 ((rd_T25 t322 1).f0))).setCell ⟨gb328, 1, none⟩ (.int .i64 ((rd_T25 t322 1).f1))).setCell ⟨gb328, 2, none⟩ (.string ((rd_T25 t322 1).f2))).heap[gb328]? = some (.cells #[.int .i64 ((rd_T25 t322 1).f0), .int .i64 ((rd_T25 t322 1).f1), .string ((rd_T25 t322 1).f2)] 25 (0, 0))) := ⟨by (with_reducible repeat (first | refine zN ?_ _ | refine zD ?_ | refine zA ?_ _)); refine blk_put (cs := #[.int .i64 ((rd_T25 t322 1).f0), .int .i64 ((rd_T25 t322 1).f1), .string (⟨#[]⟩ : ByteArray)]) ?_ 2 _ rfl; (with_reducible repeat (first | refine zN ?_ _ | refine zD ?_ | refine zA ?_ _)); refine blk_put (cs := #[.int .i64 ((rd_T25 t322 1).f0), .int .i64 0, .string (⟨#[]⟩ : ByteArray)]) ?_ 1 _ rfl; (with_reducible repeat (first | refine zN ?_ _ | refine zD ?_ | refine zA ?_ _)); refine blk_put (cs := #[.int .i64 0, .int .i64 0, .string (⟨#[]⟩ : ByteArray)]) ?_ 0 _ rfl; (with_reducible repeat (first | refine zN ?_ _ | refine zD ?_ | refine zA ?_ _)); refine blk_far ?_ NB328_327.out _; (with_reducible repeat (first | refine zN ?_ _ | refine zD ?_ | refine zA ?_ _)); refine blk_far ?_ NB328_327.out _; (with_reducible repeat (first | refine zN ?_ _ | refine zD ?_ | refine zA ?_ _)); refine blk_far ?_ NB328_327.out _; (with_reducible repeat (first | refine zN ?_ _ | refine zD ?_ | refine zA ?_ _)); exact BK328.out⟩
          have n6_ : Aside0 (Below w.heap.size w ((((((w26.setCell ⟨gb327, 0, none⟩ (.int .i64 ((rd_T25 t322 0).f0))).setCell ⟨gb327, 1, none⟩ (.int .i64 ((rd_T25 t322 0).f1))).setCell ⟨gb327, 2, none⟩ (.string ((rd_T25 t322 0).f2))).setCell ⟨gb328, 0, none⟩ (.int .i64 ((rd_T25 t322 1).f0))).setCell ⟨gb328, 1, none⟩ (.int .i64 ((rd_T25 t322 1).f1))).setCell ⟨gb328, 2, none⟩ (.string ((rd_T25 t322 1).f2)))) := ⟨by repeat (first | (with_reducible first | exact HB.out | apply yA | apply yN | apply yD | refine below_set ?_ GE317.out | refine below_set ?_ GE318.out | refine below_set ?_ GE327.out | refine below_set ?_ GE328.out) | exact HB.out)⟩
          (try clear HO321)
          (try clear HO324)
          (try clear BK317)
          (try clear BK318)
          (try clear BK327)
          (try clear BK328)
          (try clear HB)
          generalize ((((((w26.setCell ⟨gb327, 0, none⟩ (.int .i64 ((rd_T25 t322 0).f0))).setCell ⟨gb327, 1, none⟩ (.int .i64 ((rd_T25 t322 0).f1))).setCell ⟨gb327, 2, none⟩ (.string ((rd_T25 t322 0).f2))).setCell ⟨gb328, 0, none⟩ (.int .i64 ((rd_T25 t322 1).f0))).setCell ⟨gb328, 1, none⟩ (.int .i64 ((rd_T25 t322 1).f1))).setCell ⟨gb328, 2, none⟩ (.string ((rd_T25 t322 1).f2))) = w33 at n0_ n1_ n2_ n3_ n4_ n5_ n6_ ⊢
          have HO321 := n0_
          have HO324 := n1_
          have BK317 := n2_
          have BK318 := n3_
          have BK327 := n4_
          have BK328 := n5_
          have HB := n6_
          clear n0_ n1_ n2_ n3_ n4_ n5_ n6_
          have q34 : (1 : Int) ≤ ((t322.length : Int) : Int) := of_decide_eq_true (by first | (with_reducible assumption) | assumption)
          obtain ⟨i034, hi034, _, hsz34, _⟩ := info_parts info25
          have hroom34 : t322.length ≤ co23 := (Kd.R_reads' HO324.out).2.1
          have hC34 : Kd.C k25 _ (some ad325) t322.length t322 := (Kd.R_reads' HO324.out).2.2
          have hcut34 := cut_to (P := Tryd.prog) 33 25 .i64 Tryd.underlying33 hi034 (some ad325) t322.length co23 1 (by omega) q34 hroom34
          have hr34 := Kd.C_take (m := 1) hC34 (by omega)
          have hy34 : y329.length = (1 : Int).toNat := (by rw [Ny329.out, List.length_take]; omega)
          rw [← Ny329.out] at hr34
          rw [← hy34] at hcut34
          have HR332 := Aside0.mk hr34
          have HC332 := Aside0.mk (show y329.length ≤ co23 from by omega)
          clear hr34 hC34 hroom34 hi034 hsz34
          have KY34 := Aside0.mk hy34
          clear hy34
          have KL34 := Aside0.mk (show 1 ≤ t322.length from by omega)
          replace q34 := eq_true q34
          go_upto_region 8 with (first | ((with_reducible refine gate_callee (f := 11) rfl ?_); refine goesL_ (some 26) rfl rfl Tryd.func11 (by kernel_rfl) rfl #[.slice (some ad325) y329.length co23] rfl (by (try simp only [List.map_toArray, List.map_cons, List.map_nil]); first | done | rfl | (simp only [List.length_drop, List.length_take]; rfl)) ?_; (with_reducible refine (tacticianref01_List_s.calls _ _ y329 t333 _ ?side1 ?side2 A7.out).mono ?_); (case side1 => repeat (first | exact (by repeat (first | (with_reducible exact HR332.out) | (with_reducible refine Kd.C_alloc ?_ _) | (with_reducible refine Kd.C_drewN ?_ _) | (with_reducible refine Kd.C_drew ?_) | exact HR332.out)) | (with_reducible refine Kd.C_alloc ?_ _) | (with_reducible refine Kd.C_drewN ?_ _) | (with_reducible refine Kd.C_drew ?_))); (case side2 => exact HC332.out); rintro e w35 ⟨rfl, hb⟩; refine ⟨_, rfl, ?_⟩; have n0_ := Aside0.mk (Kd.R_below (by (with_reducible repeat (first | apply Kd.R_alloc | apply Kd.R_drewN | apply Kd.R_drew)); exact HO321.out) hb); have n1_ := Aside0.mk (Kd.R_below (by (with_reducible repeat (first | apply Kd.R_alloc | apply Kd.R_drewN | apply Kd.R_drew)); exact HO324.out) hb); have n2_ := Aside0.mk (blk_below (g := gb317) (o := .cells #[.int .i64 a0_0, .int .i64 a0_1, .string a0_2] 25 (0, 0)) (by (with_reducible repeat (first | refine zN ?_ _ | refine zD ?_ | refine zA ?_ _)); exact BK317.out) hb); have n3_ := Aside0.mk (blk_below (g := gb318) (o := .cells #[.int .i64 a1_0, .int .i64 a1_1, .string a1_2] 25 (0, 0)) (by (with_reducible repeat (first | refine zN ?_ _ | refine zD ?_ | refine zA ?_ _)); exact BK318.out) hb); have n4_ := Aside0.mk (blk_below (g := gb327) (o := .cells #[.int .i64 ((rd_T25 t322 0).f0), .int .i64 ((rd_T25 t322 0).f1), .string ((rd_T25 t322 0).f2)] 25 (0, 0)) (by (with_reducible repeat (first | refine zN ?_ _ | refine zD ?_ | refine zA ?_ _)); exact BK327.out) hb); have n5_ := Aside0.mk (blk_below (g := gb328) (o := .cells #[.int .i64 ((rd_T25 t322 1).f0), .int .i64 ((rd_T25 t322 1).f1), .string ((rd_T25 t322 1).f2)] 25 (0, 0)) (by (with_reducible repeat (first | refine zN ?_ _ | refine zD ?_ | refine zA ?_ _)); exact BK328.out) hb); have n6_ := Aside0.mk (Kd.C_below (by repeat (first | (with_reducible exact HR332.out) | (with_reducible refine Kd.C_alloc ?_ _) | (with_reducible refine Kd.C_drewN ?_ _) | (with_reducible refine Kd.C_drew ?_) | exact HR332.out)) hb); have n7_ := Aside0.mk (below_step (by repeat (first | (with_reducible first | exact HB.out | apply yA | apply yN | apply yD | refine below_set ?_ GE317.out | refine below_set ?_ GE318.out | refine below_set ?_ GE327.out | refine below_set ?_ GE328.out) | exact HB.out)) hb); clear HO321; clear HO324; clear BK317; clear BK318; clear BK327; clear BK328; clear HR332; clear HB; have HO321 := n0_; have HO324 := n1_; have BK317 := n2_; have BK318 := n3_; have BK327 := n4_; have BK328 := n5_; have HR332 := n6_; have HB := n7_; clear n0_ n1_ n2_ n3_ n4_ n5_ n6_ n7_; (try clear hb); (try clear hb2); (try clear hk); (try clear hi); have hnb36 := NB327_317.out; have hnc36 := NB317_327.out; have hnb37 := NB327_318.out; have hnc37 := NB318_327.out; have hnb38 := NB327_328.out; have hnc38 := NB328_327.out; have hcz39_0 : w35.cell? ⟨gb327, 0, none⟩ = some (.int .i64 ((rd_T25 t322 0).f0)) := (blk_cell BK327.out 0).trans rfl; have hcz39_1 : w35.cell? ⟨gb327, 1, none⟩ = some (.int .i64 ((rd_T25 t322 0).f1)) := (blk_cell BK327.out 1).trans rfl; have hcz39_2 : w35.cell? ⟨gb327, 2, none⟩ = some (.string ((rd_T25 t322 0).f2)) := (blk_cell BK327.out 2).trans rfl; have hfz39_0 := blk_frozen BK327.out 0; have hfz39_1 := blk_frozen BK327.out 1; have hfz39_2 := blk_frozen BK327.out 2; have hnb40 := NB328_317.out; have hnc40 := NB317_328.out; have hnb41 := NB328_318.out; have hnc41 := NB318_328.out; have hcz42_0 : w35.cell? ⟨gb328, 0, none⟩ = some (.int .i64 ((rd_T25 t322 1).f0)) := (blk_cell BK328.out 0).trans rfl; have hcz42_1 : w35.cell? ⟨gb328, 1, none⟩ = some (.int .i64 ((rd_T25 t322 1).f1)) := (blk_cell BK328.out 1).trans rfl; have hcz42_2 : w35.cell? ⟨gb328, 2, none⟩ = some (.string ((rd_T25 t322 1).f2)) := (blk_cell BK328.out 2).trans rfl; have hfz42_0 := blk_frozen BK328.out 0; have hfz42_1 := blk_frozen BK328.out 1; have hfz42_2 := blk_frozen BK328.out 2) | ((with_reducible refine gate_callee (f := 12) rfl ?_); refine goesL_ (some 30) rfl rfl Tryd.func12 (by kernel_rfl) rfl #[.agg #[.int .i64 ((rd_T25 t322 0).f0), .int .i64 ((rd_T25 t322 0).f1), .string ((rd_T25 t322 0).f2)], .agg #[.int .i64 ((rd_T25 t322 1).f0), .int .i64 ((rd_T25 t322 1).f1), .string ((rd_T25 t322 1).f2)]] rfl (by (try simp only [List.map_toArray, List.map_cons, List.map_nil]); first | done | rfl | (simp only [List.length_drop, List.length_take]; rfl)) ?_; (with_reducible refine (value_Compare.calls ((rd_T25 t322 0).f0) ((rd_T25 t322 0).f1) ((rd_T25 t322 0).f2) ((rd_T25 t322 1).f0) ((rd_T25 t322 1).f1) ((rd_T25 t322 1).f2) t334 t335 _ A8.out).mono ?_); rintro e w43 ⟨rfl, hb⟩; refine ⟨_, rfl, ?_⟩; have n0_ := Aside0.mk (Kd.R_below (by (with_reducible repeat (first | apply Kd.R_alloc | apply Kd.R_drewN | apply Kd.R_drew)); exact HO321.out) hb); have n1_ := Aside0.mk (Kd.R_below (by (with_reducible repeat (first | apply Kd.R_alloc | apply Kd.R_drewN | apply Kd.R_drew)); exact HO324.out) hb); have n2_ := Aside0.mk (blk_below (g := gb317) (o := .cells #[.int .i64 a0_0, .int .i64 a0_1, .string a0_2] 25 (0, 0)) (by (with_reducible repeat (first | refine zN ?_ _ | refine zD ?_ | refine zA ?_ _)); exact BK317.out) hb); have n3_ := Aside0.mk (blk_below (g := gb318) (o := .cells #[.int .i64 a1_0, .int .i64 a1_1, .string a1_2] 25 (0, 0)) (by (with_reducible repeat (first | refine zN ?_ _ | refine zD ?_ | refine zA ?_ _)); exact BK318.out) hb); have n4_ := Aside0.mk (blk_below (g := gb327) (o := .cells #[.int .i64 ((rd_T25 t322 0).f0), .int .i64 ((rd_T25 t322 0).f1), .string ((rd_T25 t322 0).f2)] 25 (0, 0)) (by (with_reducible repeat (first | refine zN ?_ _ | refine zD ?_ | refine zA ?_ _)); exact BK327.out) hb); have n5_ := Aside0.mk (blk_below (g := gb328) (o := .cells #[.int .i64 ((rd_T25 t322 1).f0), .int .i64 ((rd_T25 t322 1).f1), .string ((rd_T25 t322 1).f2)] 25 (0, 0)) (by (with_reducible repeat (first | refine zN ?_ _ | refine zD ?_ | refine zA ?_ _)); exact BK328.out) hb); have n6_ := Aside0.mk (Kd.C_below (by repeat (first | (with_reducible exact HR332.out) | (with_reducible refine Kd.C_alloc ?_ _) | (with_reducible refine Kd.C_drewN ?_ _) | (with_reducible refine Kd.C_drew ?_) | exact HR332.out)) hb); have n7_ := Aside0.mk (below_step (by repeat (first | (with_reducible first | exact HB.out | apply yA | apply yN | apply yD | refine below_set ?_ GE317.out | refine below_set ?_ GE318.out | refine below_set ?_ GE327.out | refine below_set ?_ GE328.out) | exact HB.out)) hb); clear HO321; clear HO324; clear BK317; clear BK318; clear BK327; clear BK328; clear HR332; clear HB; have HO321 := n0_; have HO324 := n1_; have BK317 := n2_; have BK318 := n3_; have BK327 := n4_; have BK328 := n5_; have HR332 := n6_; have HB := n7_; clear n0_ n1_ n2_ n3_ n4_ n5_ n6_ n7_; (try clear hb); (try clear hb2); (try clear hk); (try clear hi); have hcz44_0 : w43.cell? ⟨gb327, 0, none⟩ = some (.int .i64 ((rd_T25 t322 0).f0)) := (blk_cell BK327.out 0).trans rfl; have hcz44_1 : w43.cell? ⟨gb327, 1, none⟩ = some (.int .i64 ((rd_T25 t322 0).f1)) := (blk_cell BK327.out 1).trans rfl; have hcz44_2 : w43.cell? ⟨gb327, 2, none⟩ = some (.string ((rd_T25 t322 0).f2)) := (blk_cell BK327.out 2).trans rfl; have hfz44_0 := blk_frozen BK327.out 0; have hfz44_1 := blk_frozen BK327.out 1; have hfz44_2 := blk_frozen BK327.out 2) | ((with_reducible refine gate_callee (f := 13) rfl ?_); refine goesL_ (some 35) rfl rfl Tryd.func13 (by kernel_rfl) rfl #[.agg #[.int .i64 ((rd_T25 t322 0).f0), .int .i64 ((rd_T25 t322 0).f1), .string ((rd_T25 t322 0).f2)]] rfl (by (try simp only [List.map_toArray, List.map_cons, List.map_nil]); first | done | rfl | (simp only [List.length_drop, List.length_take]; rfl)) ?_; (with_reducible refine (value_String.calls ((rd_T25 t322 0).f0) ((rd_T25 t322 0).f1) ((rd_T25 t322 0).f2) t336 t337 _ ?side1 A9.out).mono ?_); (case side1 => exact Laid.below HLD.out (by repeat (first | (with_reducible first | exact HB.out | apply yA | apply yN | apply yD | refine below_set ?_ GE317.out | refine below_set ?_ GE318.out | refine below_set ?_ GE327.out | refine below_set ?_ GE328.out) | exact HB.out))); rintro e w45 ⟨rfl, hb⟩; refine ⟨_, rfl, ?_⟩; have n0_ := Aside0.mk (Kd.R_below (by (with_reducible repeat (first | apply Kd.R_alloc | apply Kd.R_drewN | apply Kd.R_drew)); exact HO321.out) hb); have n1_ := Aside0.mk (Kd.R_below (by (with_reducible repeat (first | apply Kd.R_alloc | apply Kd.R_drewN | apply Kd.R_drew)); exact HO324.out) hb); have n2_ := Aside0.mk (blk_below (g := gb317) (o := .cells #[.int .i64 a0_0, .int .i64 a0_1, .string a0_2] 25 (0, 0)) (by (with_reducible repeat (first | refine zN ?_ _ | refine zD ?_ | refine zA ?_ _)); exact BK317.out) hb); have n3_ := Aside0.mk (blk_below (g := gb318) (o := .cells #[.int .i64 a1_0, .int .i64 a1_1, .string a1_2] 25 (0, 0)) (by (with_reducible repeat (first | refine zN ?_ _ | refine zD ?_ | refine zA ?_ _)); exact BK318.out) hb); have n4_ := Aside0.mk (blk_below (g := gb327) (o := .cells #[.int .i64 ((rd_T25 t322 0).f0), .int .i64 ((rd_T25 t322 0).f1), .string ((rd_T25 t322 0).f2)] 25 (0, 0)) (by (with_reducible repeat (first | refine zN ?_ _ | refine zD ?_ | refine zA ?_ _)); exact BK327.out) hb); have n5_ := Aside0.mk (blk_below (g := gb328) (o := .cells #[.int .i64 ((rd_T25 t322 1).f0), .int .i64 ((rd_T25 t322 1).f1), .string ((rd_T25 t322 1).f2)] 25 (0, 0)) (by (with_reducible repeat (first | refine zN ?_ _ | refine zD ?_ | refine zA ?_ _)); exact BK328.out) hb); have n6_ := Aside0.mk (Kd.C_below (by repeat (first | (with_reducible exact HR332.out) | (with_reducible refine Kd.C_alloc ?_ _) | (with_reducible refine Kd.C_drewN ?_ _) | (with_reducible refine Kd.C_drew ?_) | exact HR332.out)) hb); have n7_ := Aside0.mk (below_step (by repeat (first | (with_reducible first | exact HB.out | apply yA | apply yN | apply yD | refine below_set ?_ GE317.out | refine below_set ?_ GE318.out | refine below_set ?_ GE327.out | refine below_set ?_ GE328.out) | exact HB.out)) hb); clear HO321; clear HO324; clear BK317; clear BK318; clear BK327; clear BK328; clear HR332; clear HB; have HO321 := n0_; have HO324 := n1_; have BK317 := n2_; have BK318 := n3_; have BK327 := n4_; have BK328 := n5_; have HR332 := n6_; have HB := n7_; clear n0_ n1_ n2_ n3_ n4_ n5_ n6_ n7_; (try clear hb); (try clear hb2); (try clear hk); (try clear hi); have hcz46_0 : w45.cell? ⟨gb327, 0, none⟩ = some (.int .i64 ((rd_T25 t322 0).f0)) := (blk_cell BK327.out 0).trans rfl; have hcz46_1 : w45.cell? ⟨gb327, 1, none⟩ = some (.int .i64 ((rd_T25 t322 0).f1)) := (blk_cell BK327.out 1).trans rfl; have hcz46_2 : w45.cell? ⟨gb327, 2, none⟩ = some (.string ((rd_T25 t322 0).f2)) := (blk_cell BK327.out 2).trans rfl; have hfz46_0 := blk_frozen BK327.out 0; have hfz46_1 := blk_frozen BK327.out 1; have hfz46_2 := blk_frozen BK327.out 2) | ((with_reducible refine gate_callee (f := 14) rfl ?_); refine goesL_ (some 39) rfl rfl Tryd.func14 (by kernel_rfl) rfl #[.agg #[.int .i64 ((rd_T25 t322 0).f0), .int .i64 ((rd_T25 t322 0).f1), .string ((rd_T25 t322 0).f2)]] rfl (by (try simp only [List.map_toArray, List.map_cons, List.map_nil]); first | done | rfl | (simp only [List.length_drop, List.length_take]; rfl)) ?_; (with_reducible refine (value_Check.calls ((rd_T25 t322 0).f0) ((rd_T25 t322 0).f1) ((rd_T25 t322 0).f2) t338 _ A10.out).mono ?_); rintro e w47 ⟨rfl, hb⟩; refine ⟨_, rfl, ?_⟩; have n0_ := Aside0.mk (Kd.R_below (by (with_reducible repeat (first | apply Kd.R_alloc | apply Kd.R_drewN | apply Kd.R_drew)); exact HO321.out) hb); have n1_ := Aside0.mk (Kd.R_below (by (with_reducible repeat (first | apply Kd.R_alloc | apply Kd.R_drewN | apply Kd.R_drew)); exact HO324.out) hb); have n2_ := Aside0.mk (blk_below (g := gb317) (o := .cells #[.int .i64 a0_0, .int .i64 a0_1, .string a0_2] 25 (0, 0)) (by (with_reducible repeat (first | refine zN ?_ _ | refine zD ?_ | refine zA ?_ _)); exact BK317.out) hb); have n3_ := Aside0.mk (blk_below (g := gb318) (o := .cells #[.int .i64 a1_0, .int .i64 a1_1, .string a1_2] 25 (0, 0)) (by (with_reducible repeat (first | refine zN ?_ _ | refine zD ?_ | refine zA ?_ _)); exact BK318.out) hb); have n4_ := Aside0.mk (blk_below (g := gb327) (o := .cells #[.int .i64 ((rd_T25 t322 0).f0), .int .i64 ((rd_T25 t322 0).f1), .string ((rd_T25 t322 0).f2)] 25 (0, 0)) (by (with_reducible repeat (first | refine zN ?_ _ | refine zD ?_ | refine zA ?_ _)); exact BK327.out) hb); have n5_ := Aside0.mk (blk_below (g := gb328) (o := .cells #[.int .i64 ((rd_T25 t322 1).f0), .int .i64 ((rd_T25 t322 1).f1), .string ((rd_T25 t322 1).f2)] 25 (0, 0)) (by (with_reducible repeat (first | refine zN ?_ _ | refine zD ?_ | refine zA ?_ _)); exact BK328.out) hb); have n6_ := Aside0.mk (Kd.C_below (by repeat (first | (with_reducible exact HR332.out) | (with_reducible refine Kd.C_alloc ?_ _) | (with_reducible refine Kd.C_drewN ?_ _) | (with_reducible refine Kd.C_drew ?_) | exact HR332.out)) hb); have n7_ := Aside0.mk (below_step (by repeat (first | (with_reducible first | exact HB.out | apply yA | apply yN | apply yD | refine below_set ?_ GE317.out | refine below_set ?_ GE318.out | refine below_set ?_ GE327.out | refine below_set ?_ GE328.out) | exact HB.out)) hb); clear HO321; clear HO324; clear BK317; clear BK318; clear BK327; clear BK328; clear HR332; clear HB; have HO321 := n0_; have HO324 := n1_; have BK317 := n2_; have BK318 := n3_; have BK327 := n4_; have BK328 := n5_; have HR332 := n6_; have HB := n7_; clear n0_ n1_ n2_ n3_ n4_ n5_ n6_ n7_; (try clear hb); (try clear hb2); (try clear hk); (try clear hi)))
          (try simp only [Act.put, List.setIfInBounds_toArray, List.set_cons_zero, List.set_cons_succ])
          go_cut [66] (fun v66 wc => ∃ (kq : Nat) (x66_11 : Bool), v66 = .bool x66_11 ∧ Aside0 (tacticianlaw01_ValueForms.j0 kq t322 t334 t335 x66_11 ((rd_T25 t322 0).f0) ((rd_T25 t322 0).f1) ((rd_T25 t322 0).f2) ((rd_T25 t322 1).f0) ((rd_T25 t322 1).f1) ((rd_T25 t322 1).f2) = some r) ∧ Aside0 (kq ≤ k) ∧ Aside0 (Kd.R k25 25 wc w.heap.size (fun k_ => k_ ≠ gb317 ∧ k_ ≠ gb318 ∧ k_ ≠ gb327 ∧ k_ ≠ gb328) (.slice (some ad325) t322.length co23) t322) ∧ Aside0 (wc.heap[gb317]? = some (.cells #[.int .i64 a0_0, .int .i64 a0_1, .string a0_2] 25 (0, 0))) ∧ Aside0 (wc.heap[gb318]? = some (.cells #[.int .i64 a1_0, .int .i64 a1_1, .string a1_2] 25 (0, 0))) ∧ Aside0 (wc.heap[gb327]? = some (.cells #[.int .i64 ((rd_T25 t322 0).f0), .int .i64 ((rd_T25 t322 0).f1), .string ((rd_T25 t322 0).f2)] 25 (0, 0))) ∧ Aside0 (wc.heap[gb328]? = some (.cells #[.int .i64 ((rd_T25 t322 1).f0), .int .i64 ((rd_T25 t322 1).f1), .string ((rd_T25 t322 1).f2)] 25 (0, 0))) ∧ Aside0 (Kd.C k25 wc (some ad325) y329.length y329) ∧ Aside0 (Below w.heap.size w wc))
          case first =>
            have H := HC12.out
            clear HC12
            by_cases c48 : t333 = 0
            · rw [if_pos c48] at H
              have c48b0 : (t333 == 0) = true := beq_iff_eq.mpr c48
              have c48b1 : (t333 != 0) = false := bne_eq_false_iff_eq.mpr c48
              clear c48
              (first | rw [c48b0] | (simp only [i64_w, i32_w]; rw [c48b0]) | skip)
              by_cases c49 : t337 = 0
              · rw [if_pos c49] at H
                have c49b0 : (t337 == 0) = true := beq_iff_eq.mpr c49
                have c49b1 : (t337 != 0) = false := bne_eq_false_iff_eq.mpr c49
                clear c49
                replace H := Option.bind_eq_some_iff.mp H
                obtain ⟨t339, A500, H⟩ := H
                replace H : (tacticianlaw01_ValueForms.j0 k t322 t334 t335 (t336.toList != t339.toList) ((rd_T25 t322 0).f0) ((rd_T25 t322 0).f1) ((rd_T25 t322 0).f2) ((rd_T25 t322 1).f0) ((rd_T25 t322 1).f1) ((rd_T25 t322 1).f2)) = some r := H
                have A50 := Aside0.mk A500
                clear A500
                have H' := Aside0.mk H
                clear H
                have hnb51 := NB327_317.out
                have hnc51 := NB317_327.out
                have hnb52 := NB327_318.out
                have hnc52 := NB318_327.out
                have hnb53 := NB327_328.out
                have hnc53 := NB328_327.out
                have hcz54_0 : w47.cell? ⟨gb327, 0, none⟩ = some (.int .i64 ((rd_T25 t322 0).f0)) := (blk_cell BK327.out 0).trans rfl
                have hcz54_1 : w47.cell? ⟨gb327, 1, none⟩ = some (.int .i64 ((rd_T25 t322 0).f1)) := (blk_cell BK327.out 1).trans rfl
                have hcz54_2 : w47.cell? ⟨gb327, 2, none⟩ = some (.string ((rd_T25 t322 0).f2)) := (blk_cell BK327.out 2).trans rfl
                have hfz54_0 := blk_frozen BK327.out 0
                have hfz54_1 := blk_frozen BK327.out 1
                have hfz54_2 := blk_frozen BK327.out 2
                go_wp2_with (first | (go_at_call 15; (with_reducible refine (tacticianref01_String_s.calls ((rd_T25 t322 0).f0) ((rd_T25 t322 0).f1) ((rd_T25 t322 0).f2) t339 _ A50.out).mono ?_); rintro e w55 ⟨rfl, hb⟩; have n0_ := Aside0.mk (Kd.R_below (by (with_reducible repeat (first | apply Kd.R_alloc | apply Kd.R_drewN | apply Kd.R_drew)); exact HO321.out) hb); have n1_ := Aside0.mk (Kd.R_below (by (with_reducible repeat (first | apply Kd.R_alloc | apply Kd.R_drewN | apply Kd.R_drew)); exact HO324.out) hb); have n2_ := Aside0.mk (blk_below (g := gb317) (o := .cells #[.int .i64 a0_0, .int .i64 a0_1, .string a0_2] 25 (0, 0)) (by (with_reducible repeat (first | refine zN ?_ _ | refine zD ?_ | refine zA ?_ _)); exact BK317.out) hb); have n3_ := Aside0.mk (blk_below (g := gb318) (o := .cells #[.int .i64 a1_0, .int .i64 a1_1, .string a1_2] 25 (0, 0)) (by (with_reducible repeat (first | refine zN ?_ _ | refine zD ?_ | refine zA ?_ _)); exact BK318.out) hb); have n4_ := Aside0.mk (blk_below (g := gb327) (o := .cells #[.int .i64 ((rd_T25 t322 0).f0), .int .i64 ((rd_T25 t322 0).f1), .string ((rd_T25 t322 0).f2)] 25 (0, 0)) (by (with_reducible repeat (first | refine zN ?_ _ | refine zD ?_ | refine zA ?_ _)); exact BK327.out) hb); have n5_ := Aside0.mk (blk_below (g := gb328) (o := .cells #[.int .i64 ((rd_T25 t322 1).f0), .int .i64 ((rd_T25 t322 1).f1), .string ((rd_T25 t322 1).f2)] 25 (0, 0)) (by (with_reducible repeat (first | refine zN ?_ _ | refine zD ?_ | refine zA ?_ _)); exact BK328.out) hb); have n6_ := Aside0.mk (Kd.C_below (by repeat (first | (with_reducible exact HR332.out) | (with_reducible refine Kd.C_alloc ?_ _) | (with_reducible refine Kd.C_drewN ?_ _) | (with_reducible refine Kd.C_drew ?_) | exact HR332.out)) hb); have n7_ := Aside0.mk (below_step (by repeat (first | (with_reducible first | exact HB.out | apply yA | apply yN | apply yD | refine below_set ?_ GE317.out | refine below_set ?_ GE318.out | refine below_set ?_ GE327.out | refine below_set ?_ GE328.out) | exact HB.out)) hb); clear HO321; clear HO324; clear BK317; clear BK318; clear BK327; clear BK328; clear HR332; clear HB; have HO321 := n0_; have HO324 := n1_; have BK317 := n2_; have BK318 := n3_; have BK327 := n4_; have BK328 := n5_; have HR332 := n6_; have HB := n7_; clear n0_ n1_ n2_ n3_ n4_ n5_ n6_ n7_; (try clear hb); (try clear hb2); (try clear hk); (try clear hi)))
                go_meet
                case rel => exact ⟨_, ((t336.toList != t339.toList)), (by first | rfl | (simp; done) | (simp [*]; done)), H', ⟨by first | omega | exact Nat.le_refl _⟩, ⟨by (with_reducible repeat (first | apply Kd.R_alloc | apply Kd.R_drewN | apply Kd.R_drew)); exact Kd.R_mono HO324.out (fun _ hk => ⟨hk.2.1, ⟨hk.2.2.1, ⟨hk.2.2.2.1, hk.2.2.2.2⟩⟩⟩)⟩, ⟨by (with_reducible repeat (first | refine zN ?_ _ | refine zD ?_ | refine zA ?_ _)); exact BK317.out⟩, ⟨by (with_reducible repeat (first | refine zN ?_ _ | refine zD ?_ | refine zA ?_ _)); exact BK318.out⟩, ⟨by (with_reducible repeat (first | refine zN ?_ _ | refine zD ?_ | refine zA ?_ _)); exact BK327.out⟩, ⟨by (with_reducible repeat (first | refine zN ?_ _ | refine zD ?_ | refine zA ?_ _)); exact BK328.out⟩, ⟨by repeat (first | (with_reducible exact HR332.out) | (with_reducible refine Kd.C_alloc ?_ _) | (with_reducible refine Kd.C_drewN ?_ _) | (with_reducible refine Kd.C_drew ?_) | exact HR332.out)⟩, ⟨by repeat (first | (with_reducible first | exact HB.out | apply yA | apply yN | apply yD | refine below_set ?_ GE317.out | refine below_set ?_ GE318.out | refine below_set ?_ GE327.out | refine below_set ?_ GE328.out) | exact HB.out)⟩⟩
              · rw [if_neg c49] at H
                have c49b0 : (t337 == 0) = false := beq_eq_false_iff_ne.mpr c49
                have c49b1 : (t337 != 0) = true := bne_iff_ne.mpr c49
                have H' := Aside0.mk H
                clear H
                go_wp2
                go_meet
                case rel => exact ⟨_, (true), (by first | rfl | (simp; done) | (simp [*]; done)), H', ⟨by first | omega | exact Nat.le_refl _⟩, ⟨by (with_reducible repeat (first | apply Kd.R_alloc | apply Kd.R_drewN | apply Kd.R_drew)); exact Kd.R_mono HO324.out (fun _ hk => ⟨hk.2.1, ⟨hk.2.2.1, ⟨hk.2.2.2.1, hk.2.2.2.2⟩⟩⟩)⟩, ⟨by (with_reducible repeat (first | refine zN ?_ _ | refine zD ?_ | refine zA ?_ _)); exact BK317.out⟩, ⟨by (with_reducible repeat (first | refine zN ?_ _ | refine zD ?_ | refine zA ?_ _)); exact BK318.out⟩, ⟨by (with_reducible repeat (first | refine zN ?_ _ | refine zD ?_ | refine zA ?_ _)); exact BK327.out⟩, ⟨by (with_reducible repeat (first | refine zN ?_ _ | refine zD ?_ | refine zA ?_ _)); exact BK328.out⟩, ⟨by repeat (first | (with_reducible exact HR332.out) | (with_reducible refine Kd.C_alloc ?_ _) | (with_reducible refine Kd.C_drewN ?_ _) | (with_reducible refine Kd.C_drew ?_) | exact HR332.out)⟩, ⟨by repeat (first | (with_reducible first | exact HB.out | apply yA | apply yN | apply yD | refine below_set ?_ GE317.out | refine below_set ?_ GE318.out | refine below_set ?_ GE327.out | refine below_set ?_ GE328.out) | exact HB.out)⟩⟩
            · rw [if_neg c48] at H
              have c48b0 : (t333 == 0) = false := beq_eq_false_iff_ne.mpr c48
              have c48b1 : (t333 != 0) = true := bne_iff_ne.mpr c48
              (first | rw [c48b0] | (simp only [i64_w, i32_w]; rw [c48b0]) | skip)
              by_cases c56 : t337 = t333
              · rw [if_pos c56] at H
                have c56b0 : (t337 == t333) = true := beq_iff_eq.mpr c56
                have c56b1 : (t337 != t333) = false := bne_eq_false_iff_eq.mpr c56
                clear c56
                by_cases c57 : t336.toList = ([] : List UInt8)
                · rw [if_pos c57] at H
                  have c57b0 : (t336.toList == ([] : List UInt8)) = true := beq_iff_eq.mpr c57
                  have c57b1 : (t336.toList != ([] : List UInt8)) = false := bne_eq_false_iff_eq.mpr c57
                  clear c57
                  have H' := Aside0.mk H
                  clear H
                  go_wp2
                  go_meet
                  case rel => exact ⟨_, (false), (by first | rfl | (simp; done) | (simp [*]; done)), H', ⟨by first | omega | exact Nat.le_refl _⟩, ⟨by (with_reducible repeat (first | apply Kd.R_alloc | apply Kd.R_drewN | apply Kd.R_drew)); exact Kd.R_mono HO324.out (fun _ hk => ⟨hk.2.1, ⟨hk.2.2.1, ⟨hk.2.2.2.1, hk.2.2.2.2⟩⟩⟩)⟩, ⟨by (with_reducible repeat (first | refine zN ?_ _ | refine zD ?_ | refine zA ?_ _)); exact BK317.out⟩, ⟨by (with_reducible repeat (first | refine zN ?_ _ | refine zD ?_ | refine zA ?_ _)); exact BK318.out⟩, ⟨by (with_reducible repeat (first | refine zN ?_ _ | refine zD ?_ | refine zA ?_ _)); exact BK327.out⟩, ⟨by (with_reducible repeat (first | refine zN ?_ _ | refine zD ?_ | refine zA ?_ _)); exact BK328.out⟩, ⟨by repeat (first | (with_reducible exact HR332.out) | (with_reducible refine Kd.C_alloc ?_ _) | (with_reducible refine Kd.C_drewN ?_ _) | (with_reducible refine Kd.C_drew ?_) | exact HR332.out)⟩, ⟨by repeat (first | (with_reducible first | exact HB.out | apply yA | apply yN | apply yD | refine below_set ?_ GE317.out | refine below_set ?_ GE318.out | refine below_set ?_ GE327.out | refine below_set ?_ GE328.out) | exact HB.out)⟩⟩
                · rw [if_neg c57] at H
                  have c57b0 : (t336.toList == ([] : List UInt8)) = false := beq_eq_false_iff_ne.mpr c57
                  have c57b1 : (t336.toList != ([] : List UInt8)) = true := bne_iff_ne.mpr c57
                  have H' := Aside0.mk H
                  clear H
                  go_wp2
                  go_meet
                  case rel => exact ⟨_, (true), (by first | rfl | (simp; done) | (simp [*]; done)), H', ⟨by first | omega | exact Nat.le_refl _⟩, ⟨by (with_reducible repeat (first | apply Kd.R_alloc | apply Kd.R_drewN | apply Kd.R_drew)); exact Kd.R_mono HO324.out (fun _ hk => ⟨hk.2.1, ⟨hk.2.2.1, ⟨hk.2.2.2.1, hk.2.2.2.2⟩⟩⟩)⟩, ⟨by (with_reducible repeat (first | refine zN ?_ _ | refine zD ?_ | refine zA ?_ _)); exact BK317.out⟩, ⟨by (with_reducible repeat (first | refine zN ?_ _ | refine zD ?_ | refine zA ?_ _)); exact BK318.out⟩, ⟨by (with_reducible repeat (first | refine zN ?_ _ | refine zD ?_ | refine zA ?_ _)); exact BK327.out⟩, ⟨by (with_reducible repeat (first | refine zN ?_ _ | refine zD ?_ | refine zA ?_ _)); exact BK328.out⟩, ⟨by repeat (first | (with_reducible exact HR332.out) | (with_reducible refine Kd.C_alloc ?_ _) | (with_reducible refine Kd.C_drewN ?_ _) | (with_reducible refine Kd.C_drew ?_) | exact HR332.out)⟩, ⟨by repeat (first | (with_reducible first | exact HB.out | apply yA | apply yN | apply yD | refine below_set ?_ GE317.out | refine below_set ?_ GE318.out | refine below_set ?_ GE327.out | refine below_set ?_ GE328.out) | exact HB.out)⟩⟩
              · rw [if_neg c56] at H
                have c56b0 : (t337 == t333) = false := beq_eq_false_iff_ne.mpr c56
                have c56b1 : (t337 != t333) = true := bne_iff_ne.mpr c56
                have H' := Aside0.mk H
                clear H
                go_wp2
                go_meet
                case rel => exact ⟨_, (true), (by first | rfl | (simp; done) | (simp [*]; done)), H', ⟨by first | omega | exact Nat.le_refl _⟩, ⟨by (with_reducible repeat (first | apply Kd.R_alloc | apply Kd.R_drewN | apply Kd.R_drew)); exact Kd.R_mono HO324.out (fun _ hk => ⟨hk.2.1, ⟨hk.2.2.1, ⟨hk.2.2.2.1, hk.2.2.2.2⟩⟩⟩)⟩, ⟨by (with_reducible repeat (first | refine zN ?_ _ | refine zD ?_ | refine zA ?_ _)); exact BK317.out⟩, ⟨by (with_reducible repeat (first | refine zN ?_ _ | refine zD ?_ | refine zA ?_ _)); exact BK318.out⟩, ⟨by (with_reducible repeat (first | refine zN ?_ _ | refine zD ?_ | refine zA ?_ _)); exact BK327.out⟩, ⟨by (with_reducible repeat (first | refine zN ?_ _ | refine zD ?_ | refine zA ?_ _)); exact BK328.out⟩, ⟨by repeat (first | (with_reducible exact HR332.out) | (with_reducible refine Kd.C_alloc ?_ _) | (with_reducible refine Kd.C_drewN ?_ _) | (with_reducible refine Kd.C_drew ?_) | exact HR332.out)⟩, ⟨by repeat (first | (with_reducible first | exact HB.out | apply yA | apply yN | apply yD | refine below_set ?_ GE317.out | refine below_set ?_ GE318.out | refine below_set ?_ GE327.out | refine below_set ?_ GE328.out) | exact HB.out)⟩⟩
          case rest =>
            clear HC12
            try clear c1
            try clear p2
            try clear c3
            try clear p3
            try clear q3
            try clear hx3
            try clear qi3
            try clear c4
            try clear c4b0
            try clear c4b1
            try clear c5
            try clear c5b0
            try clear c5b1
            try clear c6
            try clear c6b0
            try clear c6b1
            try clear c10
            try clear c11
            try clear c11b0
            try clear c11b1
            try clear c12
            try clear c13
            try clear c14
            try clear c15
            try clear p32
            try clear q32
            try clear hx32
            try clear qi32
            try clear q34
            try clear c36
            try clear c37
            try clear c38
            try clear c40
            try clear c41
            try clear c48
            try clear c48b0
            try clear c48b1
            try clear c49
            try clear c49b0
            try clear c49b1
            try clear c51
            try clear c52
            try clear c53
            try clear c56
            try clear c56b0
            try clear c56b1
            try clear c57
            try clear c57b0
            try clear c57b1
            try clear hcz16_0
            try clear hcz16_1
            try clear hcz16_2
            try clear hcz17_0
            try clear hcz17_1
            try clear hcz17_2
            try clear hcz39_0
            try clear hcz39_1
            try clear hcz39_2
            try clear hcz42_0
            try clear hcz42_1
            try clear hcz42_2
            try clear hcz44_0
            try clear hcz44_1
            try clear hcz44_2
            try clear hcz46_0
            try clear hcz46_1
            try clear hcz46_2
            try clear hcz54_0
            try clear hcz54_1
            try clear hcz54_2
            try clear hfz16_0
            try clear hfz16_1
            try clear hfz16_2
            try clear hfz17_0
            try clear hfz17_1
            try clear hfz17_2
            try clear hfz39_0
            try clear hfz39_1
            try clear hfz39_2
            try clear hfz42_0
            try clear hfz42_1
            try clear hfz42_2
            try clear hfz44_0
            try clear hfz44_1
            try clear hfz44_2
            try clear hfz46_0
            try clear hfz46_1
            try clear hfz46_2
            try clear hfz54_0
            try clear hfz54_1
            try clear hfz54_2
            try clear hx325_0
            try clear hx325_1
            try clear hx325_2
            try clear hx326_0
            try clear hx326_1
            try clear hx326_2
            try clear p325
            try clear p326
            try clear q325
            try clear q326
            try clear q34
            obtain ⟨kq, x66_11, rfl, HA, HJ11, HO_5, BK317, BK318, BK327, BK328, HR332, HB⟩ := hcut
            cases kq with
            | zero => exact absurd HA.out (by simp [tacticianlaw01_ValueForms.j0])
            | succ kj11 =>
              have H := HA.out
              clear HA
              simp only [tacticianlaw01_ValueForms.j0] at H
              by_cases c58 : x66_11 = true
              · subst c58
                have H1 : (some false) = some r := by rw [if_pos rfl] at H; exact H
                clear H
                have H := H1
                clear H1
                exact absurd ((Option.some.inj H).trans hr_.out) (by decide)
              · replace c58 := Bool.eq_false_iff.mpr c58
                subst c58
                have H1 : ((tacticianref01_List_s.f t322).bind fun t340 => (if t340 = 0 then ((tacticianref01_Compare_s.f ((rd_T25 t322 0).f0) ((rd_T25 t322 0).f1) ((rd_T25 t322 0).f2) ((rd_T25 t322 1).f0) ((rd_T25 t322 1).f1) ((rd_T25 t322 1).f2)).bind fun t341 => (if t334 = t341 then (if t335 = 0 then ((tacticianlaw01_awake.f).bind fun t342 => (some t342)) else (some false)) else (some false))) else (if t334 = 0 then (if t335 = t340 then ((tacticianlaw01_awake.f).bind fun t343 => (some t343)) else (some false)) else (some false)))) = some r := by rw [if_neg (show ¬ (false = true) by decide)] at H; exact H
                clear H
                have H := H1
                clear H1
                replace H := Option.bind_eq_some_iff.mp H
                obtain ⟨t340, A590, H⟩ := H
                replace H : (if t340 = 0 then ((tacticianref01_Compare_s.f ((rd_T25 t322 0).f0) ((rd_T25 t322 0).f1) ((rd_T25 t322 0).f2) ((rd_T25 t322 1).f0) ((rd_T25 t322 1).f1) ((rd_T25 t322 1).f2)).bind fun t341 => (if t334 = t341 then (if t335 = 0 then ((tacticianlaw01_awake.f).bind fun t342 => (some t342)) else (some false)) else (some false))) else (if t334 = 0 then (if t335 = t340 then ((tacticianlaw01_awake.f).bind fun t343 => (some t343)) else (some false)) else (some false))) = some r := H
                have A59 := Aside0.mk A590
                clear A590
                by_cases c60 : t340 = 0
                · rw [if_pos c60] at H
                  have c60b0 : (t340 == 0) = true := beq_iff_eq.mpr c60
                  have c60b1 : (t340 != 0) = false := bne_eq_false_iff_eq.mpr c60
                  clear c60
                  replace H := Option.bind_eq_some_iff.mp H
                  obtain ⟨t341, A610, H⟩ := H
                  replace H : (if t334 = t341 then (if t335 = 0 then ((tacticianlaw01_awake.f).bind fun t342 => (some t342)) else (some false)) else (some false)) = some r := H
                  have A61 := Aside0.mk A610
                  clear A610
                  by_cases c62 : t334 = t341
                  · rw [if_pos c62] at H
                    have c62b0 : (t334 == t341) = true := beq_iff_eq.mpr c62
                    have c62b1 : (t334 != t341) = false := bne_eq_false_iff_eq.mpr c62
                    clear c62
                    by_cases c63 : t335 = 0
                    · rw [if_pos c63] at H
                      have c63b0 : (t335 == 0) = true := beq_iff_eq.mpr c63
                      have c63b1 : (t335 != 0) = false := bne_eq_false_iff_eq.mpr c63
                      clear c63
                      replace H := Option.bind_eq_some_iff.mp H
                      obtain ⟨t342, A640, H⟩ := H
                      replace H : (some t342) = some r := H
                      have A64 := Aside0.mk A640
                      clear A640
                      obtain rfl := Option.some.inj H
                      go_wp2_with (first | ((with_reducible refine gate_callee (f := 11) rfl ?_); refine goesL_ (some 68) rfl rfl Tryd.func11 (by kernel_rfl) rfl #[.slice (some ad325) t322.length co23] rfl (by (try simp only [List.map_toArray, List.map_cons, List.map_nil]); first | done | rfl | (simp only [List.length_drop, List.length_take]; rfl)) ?_; (with_reducible refine (tacticianref01_List_s.calls _ _ t322 t340 _ ?side1 ?side2 A59.out).mono ?_); (case side1 => repeat (first | exact (Kd.R_reads' HO_5.out).2.2 | (with_reducible refine Kd.C_alloc ?_ _) | (with_reducible refine Kd.C_drewN ?_ _) | (with_reducible refine Kd.C_drew ?_))); (case side2 => exact (Kd.R_reads' HO_5.out).2.1); rintro e w65 ⟨rfl, hb⟩; refine ⟨_, rfl, ?_⟩; have n0_ := Aside0.mk (Kd.R_below (by (with_reducible repeat (first | apply Kd.R_alloc | apply Kd.R_drewN | apply Kd.R_drew)); exact HO_5.out) hb); have n1_ := Aside0.mk (blk_below (g := gb317) (o := .cells #[.int .i64 a0_0, .int .i64 a0_1, .string a0_2] 25 (0, 0)) (by (with_reducible repeat (first | refine zN ?_ _ | refine zD ?_ | refine zA ?_ _)); exact BK317.out) hb); have n2_ := Aside0.mk (blk_below (g := gb318) (o := .cells #[.int .i64 a1_0, .int .i64 a1_1, .string a1_2] 25 (0, 0)) (by (with_reducible repeat (first | refine zN ?_ _ | refine zD ?_ | refine zA ?_ _)); exact BK318.out) hb); have n3_ := Aside0.mk (blk_below (g := gb327) (o := .cells #[.int .i64 ((rd_T25 t322 0).f0), .int .i64 ((rd_T25 t322 0).f1), .string ((rd_T25 t322 0).f2)] 25 (0, 0)) (by (with_reducible repeat (first | refine zN ?_ _ | refine zD ?_ | refine zA ?_ _)); exact BK327.out) hb); have n4_ := Aside0.mk (blk_below (g := gb328) (o := .cells #[.int .i64 ((rd_T25 t322 1).f0), .int .i64 ((rd_T25 t322 1).f1), .string ((rd_T25 t322 1).f2)] 25 (0, 0)) (by (with_reducible repeat (first | refine zN ?_ _ | refine zD ?_ | refine zA ?_ _)); exact BK328.out) hb); have n5_ := Aside0.mk (Kd.C_below (by repeat (first | (with_reducible exact HR332.out) | (with_reducible refine Kd.C_alloc ?_ _) | (with_reducible refine Kd.C_drewN ?_ _) | (with_reducible refine Kd.C_drew ?_) | exact HR332.out)) hb); have n6_ := Aside0.mk (below_step (by repeat (first | (with_reducible first | exact HB.out | apply yA | apply yN | apply yD | refine below_set ?_ GE317.out | refine below_set ?_ GE318.out | refine below_set ?_ GE327.out | refine below_set ?_ GE328.out) | exact HB.out)) hb); clear HO_5; clear BK317; clear BK318; clear BK327; clear BK328; clear HR332; clear HB; have HO_5 := n0_; have BK317 := n1_; have BK318 := n2_; have BK327 := n3_; have BK328 := n4_; have HR332 := n5_; have HB := n6_; clear n0_ n1_ n2_ n3_ n4_ n5_ n6_; (try clear hb); (try clear hb2); (try clear hk); (try clear hi); have hnb66 := NB327_317.out; have hnc66 := NB317_327.out; have hnb67 := NB327_318.out; have hnc67 := NB318_327.out; have hnb68 := NB327_328.out; have hnc68 := NB328_327.out; have hcz69_0 : w65.cell? ⟨gb327, 0, none⟩ = some (.int .i64 ((rd_T25 t322 0).f0)) := (blk_cell BK327.out 0).trans rfl; have hcz69_1 : w65.cell? ⟨gb327, 1, none⟩ = some (.int .i64 ((rd_T25 t322 0).f1)) := (blk_cell BK327.out 1).trans rfl; have hcz69_2 : w65.cell? ⟨gb327, 2, none⟩ = some (.string ((rd_T25 t322 0).f2)) := (blk_cell BK327.out 2).trans rfl; have hfz69_0 := blk_frozen BK327.out 0; have hfz69_1 := blk_frozen BK327.out 1; have hfz69_2 := blk_frozen BK327.out 2; have hnb70 := NB328_317.out; have hnc70 := NB317_328.out; have hnb71 := NB328_318.out; have hnc71 := NB318_328.out; have hcz72_0 : w65.cell? ⟨gb328, 0, none⟩ = some (.int .i64 ((rd_T25 t322 1).f0)) := (blk_cell BK328.out 0).trans rfl; have hcz72_1 : w65.cell? ⟨gb328, 1, none⟩ = some (.int .i64 ((rd_T25 t322 1).f1)) := (blk_cell BK328.out 1).trans rfl; have hcz72_2 : w65.cell? ⟨gb328, 2, none⟩ = some (.string ((rd_T25 t322 1).f2)) := (blk_cell BK328.out 2).trans rfl; have hfz72_0 := blk_frozen BK328.out 0; have hfz72_1 := blk_frozen BK328.out 1; have hfz72_2 := blk_frozen BK328.out 2) | ((with_reducible refine gate_callee (f := 16) rfl ?_); refine goesL_ (some 84) rfl rfl Tryd.func16 (by kernel_rfl) rfl #[.agg #[.int .i64 ((rd_T25 t322 0).f0), .int .i64 ((rd_T25 t322 0).f1), .string ((rd_T25 t322 0).f2)], .agg #[.int .i64 ((rd_T25 t322 1).f0), .int .i64 ((rd_T25 t322 1).f1), .string ((rd_T25 t322 1).f2)]] rfl (by (try simp only [List.map_toArray, List.map_cons, List.map_nil]); first | done | rfl | (simp only [List.length_drop, List.length_take]; rfl)) ?_; (with_reducible refine (tacticianref01_Compare_s.calls ((rd_T25 t322 0).f0) ((rd_T25 t322 0).f1) ((rd_T25 t322 0).f2) ((rd_T25 t322 1).f0) ((rd_T25 t322 1).f1) ((rd_T25 t322 1).f2) t341 _ A61.out).mono ?_); rintro e w73 ⟨rfl, hb⟩; refine ⟨_, rfl, ?_⟩; have n0_ := Aside0.mk (Kd.R_below (by (with_reducible repeat (first | apply Kd.R_alloc | apply Kd.R_drewN | apply Kd.R_drew)); exact HO_5.out) hb); have n1_ := Aside0.mk (blk_below (g := gb317) (o := .cells #[.int .i64 a0_0, .int .i64 a0_1, .string a0_2] 25 (0, 0)) (by (with_reducible repeat (first | refine zN ?_ _ | refine zD ?_ | refine zA ?_ _)); exact BK317.out) hb); have n2_ := Aside0.mk (blk_below (g := gb318) (o := .cells #[.int .i64 a1_0, .int .i64 a1_1, .string a1_2] 25 (0, 0)) (by (with_reducible repeat (first | refine zN ?_ _ | refine zD ?_ | refine zA ?_ _)); exact BK318.out) hb); have n3_ := Aside0.mk (blk_below (g := gb327) (o := .cells #[.int .i64 ((rd_T25 t322 0).f0), .int .i64 ((rd_T25 t322 0).f1), .string ((rd_T25 t322 0).f2)] 25 (0, 0)) (by (with_reducible repeat (first | refine zN ?_ _ | refine zD ?_ | refine zA ?_ _)); exact BK327.out) hb); have n4_ := Aside0.mk (blk_below (g := gb328) (o := .cells #[.int .i64 ((rd_T25 t322 1).f0), .int .i64 ((rd_T25 t322 1).f1), .string ((rd_T25 t322 1).f2)] 25 (0, 0)) (by (with_reducible repeat (first | refine zN ?_ _ | refine zD ?_ | refine zA ?_ _)); exact BK328.out) hb); have n5_ := Aside0.mk (Kd.C_below (by repeat (first | (with_reducible exact HR332.out) | (with_reducible refine Kd.C_alloc ?_ _) | (with_reducible refine Kd.C_drewN ?_ _) | (with_reducible refine Kd.C_drew ?_) | exact HR332.out)) hb); have n6_ := Aside0.mk (below_step (by repeat (first | (with_reducible first | exact HB.out | apply yA | apply yN | apply yD | refine below_set ?_ GE317.out | refine below_set ?_ GE318.out | refine below_set ?_ GE327.out | refine below_set ?_ GE328.out) | exact HB.out)) hb); clear HO_5; clear BK317; clear BK318; clear BK327; clear BK328; clear HR332; clear HB; have HO_5 := n0_; have BK317 := n1_; have BK318 := n2_; have BK327 := n3_; have BK328 := n4_; have HR332 := n5_; have HB := n6_; clear n0_ n1_ n2_ n3_ n4_ n5_ n6_; (try clear hb); (try clear hb2); (try clear hk); (try clear hi)) | (go_at_call 8; (with_reducible refine (tacticianlaw01_awake.calls  t342 _ ?side1 A64.out).mono ?_); (case side1 => exact Laid.below HLD.out (by repeat (first | (with_reducible first | exact HB.out | apply yA | apply yN | apply yD | refine below_set ?_ GE317.out | refine below_set ?_ GE318.out | refine below_set ?_ GE327.out | refine below_set ?_ GE328.out) | exact HB.out))); rintro e w74 ⟨rfl, hb⟩; have n0_ := Aside0.mk (Kd.R_below (by (with_reducible repeat (first | apply Kd.R_alloc | apply Kd.R_drewN | apply Kd.R_drew)); exact HO_5.out) hb); have n1_ := Aside0.mk (blk_below (g := gb317) (o := .cells #[.int .i64 a0_0, .int .i64 a0_1, .string a0_2] 25 (0, 0)) (by (with_reducible repeat (first | refine zN ?_ _ | refine zD ?_ | refine zA ?_ _)); exact BK317.out) hb); have n2_ := Aside0.mk (blk_below (g := gb318) (o := .cells #[.int .i64 a1_0, .int .i64 a1_1, .string a1_2] 25 (0, 0)) (by (with_reducible repeat (first | refine zN ?_ _ | refine zD ?_ | refine zA ?_ _)); exact BK318.out) hb); have n3_ := Aside0.mk (blk_below (g := gb327) (o := .cells #[.int .i64 ((rd_T25 t322 0).f0), .int .i64 ((rd_T25 t322 0).f1), .string ((rd_T25 t322 0).f2)] 25 (0, 0)) (by (with_reducible repeat (first | refine zN ?_ _ | refine zD ?_ | refine zA ?_ _)); exact BK327.out) hb); have n4_ := Aside0.mk (blk_below (g := gb328) (o := .cells #[.int .i64 ((rd_T25 t322 1).f0), .int .i64 ((rd_T25 t322 1).f1), .string ((rd_T25 t322 1).f2)] 25 (0, 0)) (by (with_reducible repeat (first | refine zN ?_ _ | refine zD ?_ | refine zA ?_ _)); exact BK328.out) hb); have n5_ := Aside0.mk (Kd.C_below (by repeat (first | (with_reducible exact HR332.out) | (with_reducible refine Kd.C_alloc ?_ _) | (with_reducible refine Kd.C_drewN ?_ _) | (with_reducible refine Kd.C_drew ?_) | exact HR332.out)) hb); have n6_ := Aside0.mk (below_step (by repeat (first | (with_reducible first | exact HB.out | apply yA | apply yN | apply yD | refine below_set ?_ GE317.out | refine below_set ?_ GE318.out | refine below_set ?_ GE327.out | refine below_set ?_ GE328.out) | exact HB.out)) hb); clear HO_5; clear BK317; clear BK318; clear BK327; clear BK328; clear HR332; clear HB; have HO_5 := n0_; have BK317 := n1_; have BK318 := n2_; have BK327 := n3_; have BK328 := n4_; have HR332 := n5_; have HB := n6_; clear n0_ n1_ n2_ n3_ n4_ n5_ n6_; (try clear hb); (try clear hb2); (try clear hk); (try clear hi)))
                      go_ret
                      exact ⟨by first | rfl | (simp [errW_none, errW_some] <;> rfl) | (simp [*, errW_none, errW_some] <;> rfl), by repeat (first | (with_reducible first | exact HB.out | apply yA | apply yN | apply yD | refine below_set ?_ GE317.out | refine below_set ?_ GE318.out | refine below_set ?_ GE327.out | refine below_set ?_ GE328.out) | exact HB.out)⟩
                    · rw [if_neg c63] at H
                      have c63b0 : (t335 == 0) = false := beq_eq_false_iff_ne.mpr c63
                      have c63b1 : (t335 != 0) = true := bne_iff_ne.mpr c63
                      exact absurd ((Option.some.inj H).trans hr_.out) (by decide)
                  · rw [if_neg c62] at H
                    have c62b0 : (t334 == t341) = false := beq_eq_false_iff_ne.mpr c62
                    have c62b1 : (t334 != t341) = true := bne_iff_ne.mpr c62
                    exact absurd ((Option.some.inj H).trans hr_.out) (by decide)
                · rw [if_neg c60] at H
                  have c60b0 : (t340 == 0) = false := beq_eq_false_iff_ne.mpr c60
                  have c60b1 : (t340 != 0) = true := bne_iff_ne.mpr c60
                  by_cases c75 : t334 = 0
                  · rw [if_pos c75] at H
                    have c75b0 : (t334 == 0) = true := beq_iff_eq.mpr c75
                    have c75b1 : (t334 != 0) = false := bne_eq_false_iff_eq.mpr c75
                    clear c75
                    by_cases c76 : t335 = t340
                    · rw [if_pos c76] at H
                      have c76b0 : (t335 == t340) = true := beq_iff_eq.mpr c76
                      have c76b1 : (t335 != t340) = false := bne_eq_false_iff_eq.mpr c76
                      clear c76
                      replace H := Option.bind_eq_some_iff.mp H
                      obtain ⟨t343, A770, H⟩ := H
                      replace H : (some t343) = some r := H
                      have A77 := Aside0.mk A770
                      clear A770
                      obtain rfl := Option.some.inj H
                      go_wp2_with (first | ((with_reducible refine gate_callee (f := 11) rfl ?_); refine goesL_ (some 68) rfl rfl Tryd.func11 (by kernel_rfl) rfl #[.slice (some ad325) t322.length co23] rfl (by (try simp only [List.map_toArray, List.map_cons, List.map_nil]); first | done | rfl | (simp only [List.length_drop, List.length_take]; rfl)) ?_; (with_reducible refine (tacticianref01_List_s.calls _ _ t322 t340 _ ?side1 ?side2 A59.out).mono ?_); (case side1 => repeat (first | exact (Kd.R_reads' HO_5.out).2.2 | (with_reducible refine Kd.C_alloc ?_ _) | (with_reducible refine Kd.C_drewN ?_ _) | (with_reducible refine Kd.C_drew ?_))); (case side2 => exact (Kd.R_reads' HO_5.out).2.1); rintro e w78 ⟨rfl, hb⟩; refine ⟨_, rfl, ?_⟩; have n0_ := Aside0.mk (Kd.R_below (by (with_reducible repeat (first | apply Kd.R_alloc | apply Kd.R_drewN | apply Kd.R_drew)); exact HO_5.out) hb); have n1_ := Aside0.mk (blk_below (g := gb317) (o := .cells #[.int .i64 a0_0, .int .i64 a0_1, .string a0_2] 25 (0, 0)) (by (with_reducible repeat (first | refine zN ?_ _ | refine zD ?_ | refine zA ?_ _)); exact BK317.out) hb); have n2_ := Aside0.mk (blk_below (g := gb318) (o := .cells #[.int .i64 a1_0, .int .i64 a1_1, .string a1_2] 25 (0, 0)) (by (with_reducible repeat (first | refine zN ?_ _ | refine zD ?_ | refine zA ?_ _)); exact BK318.out) hb); have n3_ := Aside0.mk (blk_below (g := gb327) (o := .cells #[.int .i64 ((rd_T25 t322 0).f0), .int .i64 ((rd_T25 t322 0).f1), .string ((rd_T25 t322 0).f2)] 25 (0, 0)) (by (with_reducible repeat (first | refine zN ?_ _ | refine zD ?_ | refine zA ?_ _)); exact BK327.out) hb); have n4_ := Aside0.mk (blk_below (g := gb328) (o := .cells #[.int .i64 ((rd_T25 t322 1).f0), .int .i64 ((rd_T25 t322 1).f1), .string ((rd_T25 t322 1).f2)] 25 (0, 0)) (by (with_reducible repeat (first | refine zN ?_ _ | refine zD ?_ | refine zA ?_ _)); exact BK328.out) hb); have n5_ := Aside0.mk (Kd.C_below (by repeat (first | (with_reducible exact HR332.out) | (with_reducible refine Kd.C_alloc ?_ _) | (with_reducible refine Kd.C_drewN ?_ _) | (with_reducible refine Kd.C_drew ?_) | exact HR332.out)) hb); have n6_ := Aside0.mk (below_step (by repeat (first | (with_reducible first | exact HB.out | apply yA | apply yN | apply yD | refine below_set ?_ GE317.out | refine below_set ?_ GE318.out | refine below_set ?_ GE327.out | refine below_set ?_ GE328.out) | exact HB.out)) hb); clear HO_5; clear BK317; clear BK318; clear BK327; clear BK328; clear HR332; clear HB; have HO_5 := n0_; have BK317 := n1_; have BK318 := n2_; have BK327 := n3_; have BK328 := n4_; have HR332 := n5_; have HB := n6_; clear n0_ n1_ n2_ n3_ n4_ n5_ n6_; (try clear hb); (try clear hb2); (try clear hk); (try clear hi)) | (go_at_call 8; (with_reducible refine (tacticianlaw01_awake.calls  t343 _ ?side1 A77.out).mono ?_); (case side1 => exact Laid.below HLD.out (by repeat (first | (with_reducible first | exact HB.out | apply yA | apply yN | apply yD | refine below_set ?_ GE317.out | refine below_set ?_ GE318.out | refine below_set ?_ GE327.out | refine below_set ?_ GE328.out) | exact HB.out))); rintro e w79 ⟨rfl, hb⟩; have n0_ := Aside0.mk (Kd.R_below (by (with_reducible repeat (first | apply Kd.R_alloc | apply Kd.R_drewN | apply Kd.R_drew)); exact HO_5.out) hb); have n1_ := Aside0.mk (blk_below (g := gb317) (o := .cells #[.int .i64 a0_0, .int .i64 a0_1, .string a0_2] 25 (0, 0)) (by (with_reducible repeat (first | refine zN ?_ _ | refine zD ?_ | refine zA ?_ _)); exact BK317.out) hb); have n2_ := Aside0.mk (blk_below (g := gb318) (o := .cells #[.int .i64 a1_0, .int .i64 a1_1, .string a1_2] 25 (0, 0)) (by (with_reducible repeat (first | refine zN ?_ _ | refine zD ?_ | refine zA ?_ _)); exact BK318.out) hb); have n3_ := Aside0.mk (blk_below (g := gb327) (o := .cells #[.int .i64 ((rd_T25 t322 0).f0), .int .i64 ((rd_T25 t322 0).f1), .string ((rd_T25 t322 0).f2)] 25 (0, 0)) (by (with_reducible repeat (first | refine zN ?_ _ | refine zD ?_ | refine zA ?_ _)); exact BK327.out) hb); have n4_ := Aside0.mk (blk_below (g := gb328) (o := .cells #[.int .i64 ((rd_T25 t322 1).f0), .int .i64 ((rd_T25 t322 1).f1), .string ((rd_T25 t322 1).f2)] 25 (0, 0)) (by (with_reducible repeat (first | refine zN ?_ _ | refine zD ?_ | refine zA ?_ _)); exact BK328.out) hb); have n5_ := Aside0.mk (Kd.C_below (by repeat (first | (with_reducible exact HR332.out) | (with_reducible refine Kd.C_alloc ?_ _) | (with_reducible refine Kd.C_drewN ?_ _) | (with_reducible refine Kd.C_drew ?_) | exact HR332.out)) hb); have n6_ := Aside0.mk (below_step (by repeat (first | (with_reducible first | exact HB.out | apply yA | apply yN | apply yD | refine below_set ?_ GE317.out | refine below_set ?_ GE318.out | refine below_set ?_ GE327.out | refine below_set ?_ GE328.out) | exact HB.out)) hb); clear HO_5; clear BK317; clear BK318; clear BK327; clear BK328; clear HR332; clear HB; have HO_5 := n0_; have BK317 := n1_; have BK318 := n2_; have BK327 := n3_; have BK328 := n4_; have HR332 := n5_; have HB := n6_; clear n0_ n1_ n2_ n3_ n4_ n5_ n6_; (try clear hb); (try clear hb2); (try clear hk); (try clear hi)))
                      go_ret
                      exact ⟨by first | rfl | (simp [errW_none, errW_some] <;> rfl) | (simp [*, errW_none, errW_some] <;> rfl), by repeat (first | (with_reducible first | exact HB.out | apply yA | apply yN | apply yD | refine below_set ?_ GE317.out | refine below_set ?_ GE318.out | refine below_set ?_ GE327.out | refine below_set ?_ GE328.out) | exact HB.out)⟩
                    · rw [if_neg c76] at H
                      have c76b0 : (t335 == t340) = false := beq_eq_false_iff_ne.mpr c76
                      have c76b1 : (t335 != t340) = true := bne_iff_ne.mpr c76
                      exact absurd ((Option.some.inj H).trans hr_.out) (by decide)
                  · rw [if_neg c75] at H
                    have c75b0 : (t334 == 0) = false := beq_eq_false_iff_ne.mpr c75
                    have c75b1 : (t334 != 0) = true := bne_iff_ne.mpr c75
                    exact absurd ((Option.some.inj H).trans hr_.out) (by decide)
        · rw [if_neg c11] at H
          have c11b0 : (t338 == t333) = false := beq_eq_false_iff_ne.mpr c11
          have c11b1 : (t338 != t333) = true := bne_iff_ne.mpr c11
          exact absurd ((Option.some.inj H).trans hr_.out) (by decide)
      · rw [if_neg c6] at H
        exact absurd H (by simp)
    · rw [if_neg c5] at H
      exact absurd H (by simp)
  · rw [if_neg c4] at H
    exact absurd H (by simp)

end Go.Proofs.YtinhpbmoiamepaaDoor.Q
