/- Proved: the card of the statement RowsGroups, under the conditions of the given statements alone (written by a program of ours for this seat). -/
import Derived.ProofKit
import Derived.SizedLaws
import Derived.Deep.Slices
import Derived.Deep.Strs
import Derived.ChangeSame
import Derived.Test.YtmhobbdedmjmnaaGreatDoorRows
import Derived.HandedShaped
import Derived.Handed
import Derived.LaidLaws
import Derived.LaidHandle
import Derived.LaidMore
import Derived.Stop.LaidErr
import Derived.Lib.LaidTab
import Derived.Lib.LaidRTab
import Derived.Shelf.Vars
import Derived.Lib.LaidIn
import Derived.PinnedBridge
import Derived.Test.YtmhobbdedmjmnaaGreatDoorCards
import Derived.Test.YtmhobbdedmjmnaaGreatDoorTie
import Derived.SevenTiedAt
import Derived.WalkKit
import Derived.OpenShut
import Derived.ShutString
import Derived.ChangeOld
import Derived.Below
import Derived.Test.YtmhobbdedmjmnaaGreatDoorMGroups8
section
namespace Go.Proofs.YtmhobbdedmjmnaaGreatDoor.Q
open Go.RowKit Go.Proofs.YtmhobbdedmjmnaaGreatDoorW.PrintWords Go.Proofs.YtmhobbdedmjmnaaGreatDoorW.PrintLast Go.Proofs.YtmhobbdedmjmnaaGreatDoorW.PrintMore
attribute [local go_sem] max2_int min2_int max_two min_two max_three min_three max_four min_four   -- for this text's walks alone
set_option linter.unusedVariables false
set_option linter.unusedSimpArgs false
mutual
def lawGroups.j0 : Nat → List (List (S61)) → List Int → List (List (List (S61))) → Int → Int → Bool → Option (Bool)
  | 0, _, _, _, _, _, _ => none
  | k + 1, x5, x6, x7, x8, x9, x36 => if x36 = true then (lawGroups.j1 k x5 x6 x7 x8 1) else (lawGroups.j1 k x5 x6 x7 x8 x9)
def lawGroups.j1 : Nat → List (List (S61)) → List Int → List (List (List (S61))) → Int → Int → Option (Bool)
  | 0, _, _, _, _, _ => none
  | k + 1, x5, x6, x7, x8, x9 => if x9 = 0 then ((tacticianref02_Groups.f k x5 x6).bind fun t520 => (lawGroups.l0 k x7 x8 t520 0)) else (if (x7.length : Int) = 0 then (if x8 = x9 then ((tacticianlaw02_awake.f).bind fun t519 => (some t519)) else (some false)) else (some false))
def lawGroups.l0 : Nat → List (List (List (S61))) → Int → List (List (List (S61))) → Int → Option (Bool)
  | 0, _, _, _, _ => none
  | k + 1, x7, x8, x10, x11 => if x11 < (x7.length : Int) then (lawGroups.j3 k x7 x8 x10 x11 (decide (x11 < (x10.length : Int)))) else (lawGroups.j3 k x7 x8 x10 x11 false)
def lawGroups.j3 : Nat → List (List (List (S61))) → Int → List (List (List (S61))) → Int → Bool → Option (Bool)
  | 0, _, _, _, _, _ => none
  | k + 1, x7, x8, x10, x11, x62 => if x62 = true then (if 0 ≤ x11 then (if x11 < (x7.length : Int) then (if x11 < (x10.length : Int) then ((tacticianref02_Equal.f k (rd_L4 x7 x11) (rd_L4 x10 x11)).bind fun t525 => (if t525 = true then (lawGroups.l0 k x7 x8 x10 (wrap64 (x11 + 1))) else (some false))) else (none)) else (none)) else (none)) else (if (x7.length : Int) = (x10.length : Int) then (if x8 = 0 then ((tacticianlaw02_awake.f).bind fun t526 => (some t526)) else (some false)) else (some false))
end
def lawGroups.f (k : Nat) (l0 : List (List (S61))) (l1 : List Int) : Option (Bool) := (tacticianlaw02_Cut.f k l0 30).bind fun t503 => ((some (([] : List Int) : List Int)).bind fun y506 => (if 0 ≤ (mn (l1.length : Int) 20) then (if (mn (l1.length : Int) 20) ≤ (l1.length : Int) then (if y506.length + (l1.take ((mn (l1.length : Int) 20) : Int).toNat).length < 17592186044416 then ((some (y506 ++ (l1.take ((mn (l1.length : Int) 20) : Int).toNat) : List Int)).bind fun y510 => ((rows_Groups.f t503 y510).bind fun bt513 => ((tacticianref02_List.f k t503 ([] : List (List (S61)))).bind fun t517 => (if t517 = 0 then ((tacticianref02_Places.f k t503 y510).bind fun t518 => (lawGroups.j0 k t503 y510 bt513.1 bt513.2 t517 (!t518))) else (lawGroups.j0 k t503 y510 bt513.1 bt513.2 t517 false))))) else (none)) else (none)) else (none)))
def lawGroups.T1 : Bool × List (List Nat × List Nat) := (true, [([], []), ([0], [0]), ([], []), ([], []), ([], []), ([4], [4]), ([5], [5]), ([3, 6], [3, 6]), ([2, 7, 1], [2, 7]), ([1, 8, 0, 1], [1]), ([8, 9, 0, 1, 2, 3, 4, 5, 6, 7, 8, 9], [8])])
def lawGroups.B1 : List Nat := [0, 1, 0, 0, 0, 16, 48, 120, 255, 511, 1023]
theorem lawGroups.tab1 : rtab .any (opsOf Tryz.f7 1) = lawGroups.T1 := by kernel_rfl
theorem lawGroups.bits1 : waitsOk lawGroups.T1.2 lawGroups.B1 = true := by kernel_rfl
def lawGroups.T12 : Bool × List (List Nat × List Nat) := (true, [([], []), ([], []), ([0, 1], [0, 1]), ([2], [2]), ([], []), ([], []), ([4, 5], [4, 5]), ([6], [6]), ([3, 7], [3, 7]), ([8], [8])])
def lawGroups.B12 : List Nat := [0, 0, 3, 7, 0, 0, 48, 112, 255, 511]
theorem lawGroups.tab12 : rtab .any (opsOf Tryz.f7 12) = lawGroups.T12 := by kernel_rfl
theorem lawGroups.bits12 : waitsOk lawGroups.T12.2 lawGroups.B12 = true := by kernel_rfl
set_option maxHeartbeats 8000000 in
set_option maxRecDepth 100000 in
theorem lawGroups.calls (k : Nat) (A0 : Option Addr) (c0 : Nat) (l0 : List (List (S61))) (A1 : Option Addr) (c1 : Nat) (l1 : List Int) (r : Bool) (w : World) (hr0 : Kd.C (Kd.slice 61 k61) w A0 l0.length l0) (hc0 : l0.length ≤ c0) (hr1 : Kd.C (Kd.int .i64) w A1 l1.length l1) (hc1 : l1.length ≤ c1) (hL_ : Laid w) (hr_ : Aside0 (r = true)) (h : lawGroups.f k l0 l1 = some r) :
  Calls Tryz.prog 7 #[.slice A0 l0.length c0, .slice A1 l1.length c1] w fun e w' => e = .returned (.bool r) ∧ Below w.heap.size w w' := by
 have HLD := Aside0.mk hL_
 clear hL_
 have HR0 := Aside0.mk hr0
 have HC0 := Aside0.mk hc0
 clear hr0 hc0
 have HR1 := Aside0.mk hr1
 have HC1 := Aside0.mk hc1
 clear hr1 hc1
 have HB := Aside0.mk (Below.refl w.heap.size w)
 have H : ((tacticianlaw02_Cut.f k l0 30).bind fun t503 => ((some (([] : List Int) : List Int)).bind fun y506 => (if 0 ≤ (mn (l1.length : Int) 20) then (if (mn (l1.length : Int) 20) ≤ (l1.length : Int) then (if y506.length + (l1.take ((mn (l1.length : Int) 20) : Int).toNat).length < 17592186044416 then ((some (y506 ++ (l1.take ((mn (l1.length : Int) 20) : Int).toNat) : List Int)).bind fun y510 => ((rows_Groups.f t503 y510).bind fun bt513 => ((tacticianref02_List.f k t503 ([] : List (List (S61)))).bind fun t517 => (if t517 = 0 then ((tacticianref02_Places.f k t503 y510).bind fun t518 => (lawGroups.j0 k t503 y510 bt513.1 bt513.2 t517 (!t518))) else (lawGroups.j0 k t503 y510 bt513.1 bt513.2 t517 false))))) else (none)) else (none)) else (none)))) = some r := h
 clear h
 replace H := Option.bind_eq_some_iff.mp H
 obtain ⟨t503, A30, H⟩ := H
 replace H : ((some (([] : List Int) : List Int)).bind fun y506 => (if 0 ≤ (mn (l1.length : Int) 20) then (if (mn (l1.length : Int) 20) ≤ (l1.length : Int) then (if y506.length + (l1.take ((mn (l1.length : Int) 20) : Int).toNat).length < 17592186044416 then ((some (y506 ++ (l1.take ((mn (l1.length : Int) 20) : Int).toNat) : List Int)).bind fun y510 => ((rows_Groups.f t503 y510).bind fun bt513 => ((tacticianref02_List.f k t503 ([] : List (List (S61)))).bind fun t517 => (if t517 = 0 then ((tacticianref02_Places.f k t503 y510).bind fun t518 => (lawGroups.j0 k t503 y510 bt513.1 bt513.2 t517 (!t518))) else (lawGroups.j0 k t503 y510 bt513.1 bt513.2 t517 false))))) else (none)) else (none)) else (none))) = some r := H
 have A3 := Aside0.mk A30
 clear A30
 obtain ⟨y506, hy506⟩ : ∃ y_ : List Int, y_ = (([] : List Int)) := ⟨_, rfl⟩
 replace H : (if 0 ≤ (mn (l1.length : Int) 20) then (if (mn (l1.length : Int) 20) ≤ (l1.length : Int) then (if y506.length + (l1.take ((mn (l1.length : Int) 20) : Int).toNat).length < 17592186044416 then ((some (y506 ++ (l1.take ((mn (l1.length : Int) 20) : Int).toNat) : List Int)).bind fun y510 => ((rows_Groups.f t503 y510).bind fun bt513 => ((tacticianref02_List.f k t503 ([] : List (List (S61)))).bind fun t517 => (if t517 = 0 then ((tacticianref02_Places.f k t503 y510).bind fun t518 => (lawGroups.j0 k t503 y510 bt513.1 bt513.2 t517 (!t518))) else (lawGroups.j0 k t503 y510 bt513.1 bt513.2 t517 false))))) else (none)) else (none)) else (none)) = some r := by first | (rw [hy506]; with_reducible exact H) | (have H2_ := (Option.bind_some _ _).symm.trans H; rw [hy506]; with_reducible exact H2_) | (have H2_ := (Option.bind_some _ _).symm.trans H; with_reducible exact H2_) | with_reducible exact H | (rw [hy506]; exact H) | exact H
 have Ny506 := Aside0.mk hy506
 clear hy506
 obtain ⟨ji4, hji4⟩ : ∃ j_ : Int, (mn (l1.length : Int) 20) = j_ := ⟨_, rfl⟩
 replace H : (if 0 ≤ (ji4) then (if (ji4) ≤ (l1.length : Int) then (if y506.length + (l1.take ((ji4) : Int).toNat).length < 17592186044416 then ((some (y506 ++ (l1.take ((ji4) : Int).toNat) : List Int)).bind fun y510 => ((rows_Groups.f t503 y510).bind fun bt513 => ((tacticianref02_List.f k t503 ([] : List (List (S61)))).bind fun t517 => (if t517 = 0 then ((tacticianref02_Places.f k t503 y510).bind fun t518 => (lawGroups.j0 k t503 y510 bt513.1 bt513.2 t517 (!t518))) else (lawGroups.j0 k t503 y510 bt513.1 bt513.2 t517 false))))) else (none)) else (none)) else (none)) = some r := by first | (rw [hji4] at H; exact H) | (simp only [hji4] at H ⊢; exact H)
 (try rw [hji4] at A3)
 (try (have hji4h : ji4 ≤ 20 := by (rw [← hji4]; unfold mn; (repeat' split) <;> omega)))
 (try (have hji4g : ji4 ≤ 64 := by omega))
 (try (have hji4l : 0 ≤ ji4 := by (rw [← hji4]; unfold mn; (repeat' split) <;> omega)))
 (try (have hji4m : 0 ≤ ji4 := by omega))
 have hji4_ : (if 20 < (l1.length : Int) then 20 else (l1.length : Int)) = ji4 := hji4
 by_cases c5 : 0 ≤ (ji4)
 ·rw [if_pos c5] at H
  have c5b0 := eq_true c5
  have c5b1 : decide (0 ≤ (ji4)) = true := decide_eq_true c5
  clear c5
  by_cases c6 : (ji4) ≤ (l1.length : Int)
  ·rw [if_pos c6] at H
   have c6b0 := eq_true c6
   have c6b1 : decide ((ji4) ≤ (l1.length : Int)) = true := decide_eq_true c6
   clear c6
   by_cases c7 : y506.length + (l1.take ((ji4) : Int).toNat).length < 17592186044416
   ·rw [if_pos c7] at H
    have LMc7 := Aside0.mk c7
    clear c7
    obtain ⟨y510, hy510⟩ : ∃ y_ : List Int, y_ = (y506 ++ (l1.take ((ji4) : Int).toNat)) := ⟨_, rfl⟩
    replace H : ((rows_Groups.f t503 y510).bind fun bt513 => ((tacticianref02_List.f k t503 ([] : List (List (S61)))).bind fun t517 => (if t517 = 0 then ((tacticianref02_Places.f k t503 y510).bind fun t518 => (lawGroups.j0 k t503 y510 bt513.1 bt513.2 t517 (!t518))) else (lawGroups.j0 k t503 y510 bt513.1 bt513.2 t517 false)))) = some r := by first | (rw [hy510]; with_reducible exact H) | (have H2_ := (Option.bind_some _ _).symm.trans H; rw [hy510]; with_reducible exact H2_) | (have H2_ := (Option.bind_some _ _).symm.trans H; with_reducible exact H2_) | with_reducible exact H | (rw [hy510]; exact H) | exact H
    have Ny510 := Aside0.mk hy510
    clear hy510
    replace H := Option.bind_eq_some_iff.mp H
    obtain ⟨⟨t513, t516⟩, A80, H⟩ := H
    replace H : ((tacticianref02_List.f k t503 ([] : List (List (S61)))).bind fun t517 => (if t517 = 0 then ((tacticianref02_Places.f k t503 y510).bind fun t518 => (lawGroups.j0 k t503 y510 t513 t516 t517 (!t518))) else (lawGroups.j0 k t503 y510 t513 t516 t517 false))) = some r := H
    have A8 := Aside0.mk A80
    clear A80
    replace H := Option.bind_eq_some_iff.mp H
    obtain ⟨t517, A90, H⟩ := H
    replace H : (if t517 = 0 then ((tacticianref02_Places.f k t503 y510).bind fun t518 => (lawGroups.j0 k t503 y510 t513 t516 t517 (!t518))) else (lawGroups.j0 k t503 y510 t513 t516 t517 false)) = some r := H
    have A9 := Aside0.mk A90
    clear A90
    have HC10 := Aside0.mk H
    clear H
    go_enter Tryz.func7, Tryz.ntmps7
    try go_wp2
    have n0_ := Aside0.mk (below_drew1 HB.out)
    clear HB
    have HB := n0_
    clear n0_
    obtain ⟨i012, hi012, _, hsz12, _⟩ := info_parts info3
    obtain ⟨hcut12, hA12, hC12⟩ := print_take_of (P := Tryz.prog) (Value.int .i64) 0 34 3 .i64 Tryz.underlying34 hi012 hsz12 A1 c1 l1 (ji4) (of_decide_eq_true (by first | (with_reducible assumption) | assumption)) (of_decide_eq_true (by first | (with_reducible assumption) | assumption)) HC1.out
    have HR509 := Aside0.mk (Kd.C_of_reads (h1 := fun _ => rfl) (hA12 _ (Kd.reads_of_C HR1.out)))
    have HC509 := Aside0.mk hC12
    clear hA12 hC12 hi012 hsz12
    refine start_ (n := 11) (S := fun w' => True) (ds := []) #[false, false, false, false, false, false, false, false, false, false, false] (by kernel_rfl) rfl rfl trivial (fun hHeld => ?_); refine with_tabW lawGroups.tab1 lawGroups.bits1 (fun HT_ HW_ => ?_)
    generalize w.drew = w11 at HB HR509 hHeld ⊢
    refine pure_ (i := 0) (N := some 12) (v := ?_) (a' := ?_) #[true, false, false, false, false, false, false, false, false, false, false] rfl rfl (any_of HT_.out (by kernel_rfl)) (fun _ _ _ h => h) (Or.inl ⟨by rfl, ?_⟩) ?_ ?_
    rotate_left
    ·intro w'
     go_simp
     with_reducible rfl
    rotate_left
    ·simp only [Act.put, List.setIfInBounds_toArray, List.set_cons_zero, List.set_cons_succ, i64_w, i32_w]
     rfl
    refine pure_ (i := 3) (N := some 15) (v := ?_) (a' := ?_) #[true, false, false, true, false, false, false, false, false, false, false] rfl rfl (any_of HT_.out (by kernel_rfl)) (fun _ _ _ h => h) (Or.inl ⟨by rfl, ?_⟩) ?_ ?_
    rotate_left
    ·intro w'
     go_simp
     with_reducible rfl
    rotate_left
    ·simp only [Act.put, List.setIfInBounds_toArray, List.set_cons_zero, List.set_cons_succ, i64_w, i32_w]
     rfl
    refine pure_ (i := 4) (N := some 16) (v := ?_) (a' := ?_) #[true, false, false, true, true, false, false, false, false, false, false] rfl rfl (any_of HT_.out (by kernel_rfl)) (fun _ _ _ h => h) (Or.inl ⟨by rfl, ?_⟩) ?_ ?_
    rotate_left
    ·intro w'
     go_simp
     with_reducible rfl
    rotate_left
    ·simp only [Act.put, List.setIfInBounds_toArray, List.set_cons_zero, List.set_cons_succ, i64_w, i32_w]
     rfl
    refine pure_ (i := 5) (N := some 17) (v := ?_) (a' := ?_) #[true, false, false, true, true, true, false, false, false, false, false] rfl rfl (any_of HT_.out (by kernel_rfl)) (fun _ _ _ h => h) (Or.inl ⟨by rfl, ?_⟩) ?_ ?_
    rotate_left
    ·intro w'
     go_simp
     with_reducible rfl
    rotate_left
    ·simp only [Act.put, List.setIfInBounds_toArray, List.set_cons_zero, List.set_cons_succ, i64_w, i32_w]
     rfl
    refine pure_ (i := 6) (N := some 18) (v := ?_) (a' := ?_) #[true, false, false, true, true, true, true, false, false, false, false] rfl rfl (any_of HT_.out (by kernel_rfl)) (fun _ _ _ h => h) (Or.inl ⟨by rfl, ?_⟩) ?_ ?_
    rotate_left
    ·intro w'
     go_simp
     with_reducible rfl
    rotate_left
    ·simp only [Act.put, List.setIfInBounds_toArray, List.set_cons_zero, List.set_cons_succ, i64_w, i32_w]
     rfl
    refine pure_ (i := 7) (N := some 19) (v := ?_) (a' := ?_) #[true, false, false, true, true, true, true, true, false, false, false] rfl rfl (any_of HT_.out (by kernel_rfl)) (fun _ _ _ h => h) (Or.inl ⟨by rfl, ?_⟩) ?_ ?_
    rotate_left
    ·intro w'
     go_simp
     with_reducible rfl
    rotate_left
    ·simp only [Act.put, List.setIfInBounds_toArray, List.set_cons_zero, List.set_cons_succ, i64_w, i32_w]
     rfl
    refine join_ (σ := Value × Value) 3 #[true, true, true, true, true, true, true, true, false, false, false] (fun s_ => [(13, s_.1), (14, s_.2)]) (fun s_ w' => (Kd.N (Kd.slice 61 k61) 40 w' w.heap.size (fun k_ => some k_ ≠ (s_.2 : Value).ownBlock) s_.1 t503) ∧ (Kd.R (Kd.int .i64) 3 w' w.heap.size (fun _ => True) s_.2 y506) ∧ (Below w.heap.size w w')) ?_ ?_
    rotate_left
    ·intro hCont
     refine two_ (i := 1) (j := 2) (Ni := some 13) (Nj := some 14) #[true, true, false, true, true, true, true, true, false, false, false] #[true, false, true, true, true, true, true, true, false, false, false] rfl rfl rfl rfl (two_of HT_.out (by kernel_rfl)) (by decide) (by decide) (fun K hK => ?_) (fun K hK => ?_)
     ·skip
      refine goes_ Tryz.func14 (by kernel_rfl) rfl #[.slice A0 l0.length c0, .int .i64 30] (by rfl) rfl rfl (by (try simp only [List.map_toArray, List.map_cons, List.map_nil]); first | done | rfl | (simp only [List.length_drop, List.length_take]; rfl)) ?_
      with_reducible refine (tacticianlaw02_Cut.calls k _ _ l0 30 t503 _ ?side1 ?side2 A3.out).mono ?_
      (case side1 => repeat (first | exact (Kd.C_below HR0.out HB.out) | (with_reducible refine Kd.C_alloc ?_ _) | (with_reducible refine Kd.C_drewN ?_ _) | (with_reducible refine Kd.C_drew ?_)))
      (case side2 => exact HC0.out)
      rintro e w13 ⟨v504, rfl, ho0, hb⟩
      refine ⟨_, rfl, ?_⟩
      have n0_ := Aside0.mk (Kd.N_lower (Kd.N_mono (ok' := fun k_ => True) (Kd.S_N (Kd.S_bound ho0)) (fun k_ hk_ => trivial)) (below_size (by repeat (first | (with_reducible first | exact HB.out | apply yA | apply yN | apply yD) | exact HB.out))))
      have n1_ := Aside0.mk (below_step (by repeat (first | (with_reducible first | exact HB.out | apply yA | apply yN | apply yD) | exact HB.out)) hb)
      clear HB
      have HO505 := n0_
      have HB := n1_
      clear n0_ n1_
      (try clear hb)
      (try clear hb2)
      (try clear hk)
      (try clear hi)
      (try clear ho0)
      refine hK.out _ _ trivial (fun hHeld => ?_)
      clear hK K
      refine norm_ (a' := ?_) ?_ ?_
      rotate_left
      ·show Act.put _ (some 13) _ = _
       simp only [Act.put, List.setIfInBounds_toArray, List.set_cons_zero, List.set_cons_succ, i64_w, i32_w]
       rfl
      refine one_ (i := 2) (N := some 14) #[true, true, true, true, true, true, true, true, false, false, false] rfl rfl (one_of HT_.out (by kernel_rfl)) (by decide) (fun K hK => ?_)
      refine Kd.R_lit_step (Kd.int .i64) _ 3 ?hg (N := 14) ?hd (xs := ([] : List Int)) (inner := []) (ok := fun _ => True) (okp := fun _ => True) ?hr ?hp (fun _ hk => hk) trivial (Below.refl _ _) (Nat.le_refl _) (by simp) ?_; (case hd => rfl); (case hg => rfl); (case hr => first | (go_simp; done) | (go_simp; rfl)); (case hp => exact (Reps.none _ _))
      intro v507 w14 ho15 hb hg_ hnew_
      clear hg_ hnew_
      (first | rw [← Ny506.out] at ho15 | (simp only [Int.reduceToNat] at ho15; rw [← Ny506.out] at ho15))
      have n0_ := Aside0.mk (Kd.N_elder' (by (with_reducible repeat (first | apply Kd.N_alloc | apply Kd.N_drewN | apply Kd.N_drew)); exact HO505.out) (Kd.R_base ho15) hb)
      have n1_ := Aside0.mk (Kd.R_lower ho15 (below_size (by repeat (first | (with_reducible first | exact HB.out | apply yA | apply yN | apply yD) | exact HB.out))))
      have n2_ := Aside0.mk (below_step (by repeat (first | (with_reducible first | exact HB.out | apply yA | apply yN | apply yD) | exact HB.out)) hb)
      clear HO505
      clear HB
      have HO505 := n0_
      have HO508 := n1_
      have HB := n2_
      clear n0_ n1_ n2_
      clear hb ho15
      refine hK.out _ _ trivial (fun hHeld => ?_)
      clear hK K
      refine norm_ (a' := ?_) ?_ ?_
      rotate_left
      ·show Act.put _ (some 14) _ = _
       simp only [Act.put, List.setIfInBounds_toArray, List.set_cons_zero, List.set_cons_succ, i64_w, i32_w]
       rfl
      exact norm_ (by simp only [putAll, Act.put, List.setIfInBounds_toArray, List.set_cons_zero, List.set_cons_succ]) (hCont (v504, v507) _ ⟨(by (with_reducible repeat (first | apply Kd.N_alloc | apply Kd.N_drewN | apply Kd.N_drew)); exact Kd.N_mono HO505.out (fun _ hk => hk.2)), (by (with_reducible repeat (first | apply Kd.R_alloc | apply Kd.R_drewN | apply Kd.R_drew)); exact HO508.out), (by repeat (first | (with_reducible first | exact HB.out | apply yA | apply yN | apply yD) | exact HB.out))⟩)
     ·skip
      refine Kd.R_lit_step (Kd.int .i64) _ 3 ?hg (N := 14) ?hd (xs := ([] : List Int)) (inner := []) (ok := fun _ => True) (okp := fun _ => True) ?hr ?hp (fun _ hk => hk) trivial (Below.refl _ _) (Nat.le_refl _) (by simp) ?_; (case hd => rfl); (case hg => rfl); (case hr => first | (go_simp; done) | (go_simp; rfl)); (case hp => exact (Reps.none _ _))
      intro v507 w13 ho14 hb hg_ hnew_
      clear hg_ hnew_
      (first | rw [← Ny506.out] at ho14 | (simp only [Int.reduceToNat] at ho14; rw [← Ny506.out] at ho14))
      have n0_ := Aside0.mk (Kd.R_lower ho14 (below_size (by repeat (first | (with_reducible first | exact HB.out | apply yA | apply yN | apply yD) | exact HB.out))))
      have n1_ := Aside0.mk (below_step (by repeat (first | (with_reducible first | exact HB.out | apply yA | apply yN | apply yD) | exact HB.out)) hb)
      clear HB
      have HO508 := n0_
      have HB := n1_
      clear n0_ n1_
      clear hb ho14
      refine hK.out _ _ trivial (fun hHeld => ?_)
      clear hK K
      refine norm_ (a' := ?_) ?_ ?_
      rotate_left
      ·show Act.put _ (some 14) _ = _
       simp only [Act.put, List.setIfInBounds_toArray, List.set_cons_zero, List.set_cons_succ, i64_w, i32_w]
       rfl
      refine one_ (i := 1) (N := some 13) #[true, true, true, true, true, true, true, true, false, false, false] rfl rfl (one_of HT_.out (by kernel_rfl)) (by decide) (fun K hK => ?_)
      refine goes_ Tryz.func14 (by kernel_rfl) rfl #[.slice A0 l0.length c0, .int .i64 30] (by rfl) rfl rfl (by (try simp only [List.map_toArray, List.map_cons, List.map_nil]); first | done | rfl | (simp only [List.length_drop, List.length_take]; rfl)) ?_
      with_reducible refine (tacticianlaw02_Cut.calls k _ _ l0 30 t503 _ ?side1 ?side2 A3.out).mono ?_
      (case side1 => repeat (first | exact (Kd.C_below HR0.out HB.out) | (with_reducible refine Kd.C_alloc ?_ _) | (with_reducible refine Kd.C_drewN ?_ _) | (with_reducible refine Kd.C_drew ?_)))
      (case side2 => exact HC0.out)
      rintro e w15 ⟨v504, rfl, ho0, hb⟩
      refine ⟨_, rfl, ?_⟩
      have n0_ := Aside0.mk (Kd.R_below (by (with_reducible repeat (first | apply Kd.R_alloc | apply Kd.R_drewN | apply Kd.R_drew)); exact HO508.out) hb)
      have n1_ := Aside0.mk (Kd.N_lower (Kd.N_mono (ok' := fun k_ => some k_ ≠ (v507 : Value).ownBlock) (Kd.S_N (Kd.S_bound ho0)) (fun k_ hk_ => (Kd.fresh' (Kd.R_lt (by (with_reducible repeat (first | apply Kd.R_alloc | apply Kd.R_drewN | apply Kd.R_drew)); exact HO508.out)) k_ hk_.2.1))) (below_size (by repeat (first | (with_reducible first | exact HB.out | apply yA | apply yN | apply yD) | exact HB.out))))
      have n2_ := Aside0.mk (below_step (by repeat (first | (with_reducible first | exact HB.out | apply yA | apply yN | apply yD) | exact HB.out)) hb)
      clear HO508
      clear HB
      have HO508 := n0_
      have HO505 := n1_
      have HB := n2_
      clear n0_ n1_ n2_
      (try clear hb)
      (try clear hb2)
      (try clear hk)
      (try clear hi)
      (try clear ho0)
      refine hK.out _ _ trivial (fun hHeld => ?_)
      clear hK K
      refine norm_ (a' := ?_) ?_ ?_
      rotate_left
      ·show Act.put _ (some 13) _ = _
       simp only [Act.put, List.setIfInBounds_toArray, List.set_cons_zero, List.set_cons_succ, i64_w, i32_w]
       rfl
      exact norm_ (by simp only [putAll, Act.put, List.setIfInBounds_toArray, List.set_cons_zero, List.set_cons_succ]) (hCont (v504, v507) _ ⟨(by (with_reducible repeat (first | apply Kd.N_alloc | apply Kd.N_drewN | apply Kd.N_drew)); exact HO505.out), (by (with_reducible repeat (first | apply Kd.R_alloc | apply Kd.R_drewN | apply Kd.R_drew)); exact HO508.out), (by repeat (first | (with_reducible first | exact HB.out | apply yA | apply yN | apply yD) | exact HB.out))⟩)
    rintro ⟨v504, v507⟩ w16 ⟨h0_, h1_, h2_⟩
    have n0_ : Aside0 (Kd.N (Kd.slice 61 k61) 40 w16 w.heap.size (fun k_ => some k_ ≠ (v507 : Value).ownBlock) v504 t503) := ⟨h0_⟩
    have n1_ : Aside0 (Kd.R (Kd.int .i64) 3 w16 w.heap.size (fun _ => True) v507 y506) := ⟨h1_⟩
    have n2_ : Aside0 (Below w.heap.size w w16) := ⟨h2_⟩
    clear HB
    clear h0_ h1_ h2_
    have HO505 := n0_
    have HO508 := n1_
    have HB := n2_
    clear n0_ n1_ n2_
    have hHeld := trivial
    refine norm_ (a' := ?_) ?_ ?_
    rotate_left
    ·simp only [putAll, Act.put, List.setIfInBounds_toArray, List.set_cons_zero, List.set_cons_succ]
     rfl
    refine one_ (i := 8) (N := some 20) #[true, true, true, true, true, true, true, true, true, false, false] rfl rfl (one_of HT_.out (by kernel_rfl)) (by decide) (fun K hK => ?_)
    refine Kd.R_append_rows_step (Kd.int .i64) (w0 := w) w.heap.size (by rfl) (.tmp 14) (.tmp 19) 34 3 (.int .i64 0) 8 rfl Tryz.underlying34 info3 rfl (by decide) (by omega) v507 y506 (l1.take ((ji4) : Int).toNat) _ _ _ (fun _ => True) (fun _ => False) rfl rfl ?aO ?aR (fun _ _ h => h) (fun _ h => h.elim) ?aF ?aB ?aS ?aL ?_
    (case aR => first | (rw [← show (l1.take ((ji4) : Int).toNat).length = (ji4).toNat from (by rw [List.length_take]; have h_ : ((ji4) : Int) ≤ (l1.length : Int) := of_decide_eq_true (by first | (with_reducible assumption) | assumption); omega)]; (repeat (first | exact (Kd.C_below HR509.out HB.out) | (with_reducible refine Kd.C_alloc ?_ _) | (with_reducible refine Kd.C_drewN ?_ _) | (with_reducible refine Kd.C_drew ?_))); done) | ((repeat (first | exact (Kd.C_below HR509.out HB.out) | (with_reducible refine Kd.C_alloc ?_ _) | (with_reducible refine Kd.C_drewN ?_ _) | (with_reducible refine Kd.C_drew ?_))); done) | (have hl_ : (l1.take ((ji4) : Int).toNat).length = (ji4).toNat := (by rw [List.length_take]; have h_ : ((ji4) : Int) ≤ (l1.length : Int) := of_decide_eq_true (by first | (with_reducible assumption) | assumption); omega); have z_ := Kd.C_below HR509.out HB.out; rw [hl_] at z_; exact z_))
    (case aB => exact (by repeat (first | (with_reducible first | exact HB.out | apply yA | apply yN | apply yD) | exact HB.out)))
    (case aF => exact (fun _ _ => trivial))
    (case aO => exact (by (with_reducible repeat (first | apply Kd.R_alloc | apply Kd.R_drewN | apply Kd.R_drew)); exact HO508.out))
    (case aS => exact (below_size (by repeat (first | (with_reducible first | exact HB.out | apply yA | apply yN | apply yD) | exact HB.out))))
    (case aL => have := LMc7.out; have hlx_ := (show (l1.take ((ji4) : Int).toNat).length = (ji4).toNat from (by rw [List.length_take]; have h_ : ((ji4) : Int) ≤ (l1.length : Int) := of_decide_eq_true (by first | (with_reducible assumption) | assumption); omega)); omega)
    intro v511 w17 ho hb hg hat
    rw [← Ny510.out] at ho
    have n0_ := Aside0.mk (Kd.N_afterv (ok := (fun _ => True)) (by (with_reducible repeat (first | apply Kd.N_alloc | apply Kd.N_drewN | apply Kd.N_drew)); exact Kd.N_mono HO505.out (fun _ hk => ⟨trivial, hk⟩)) hg hat)
    have n1_ := Aside0.mk (hb)
    have n2_ := Aside0.mk (ho)
    clear HO505
    clear HB
    clear HO508
    have HO505 := n0_
    have HB := n1_
    have HO512 := n2_
    clear n0_ n1_ n2_
    clear ho hb hg hat
    refine hK.out _ _ trivial (fun hHeld => ?_)
    clear hK K
    refine norm_ (a' := ?_) ?_ ?_
    rotate_left
    ·show Act.put _ (some 20) _ = _
     simp only [Act.put, List.setIfInBounds_toArray, List.set_cons_zero, List.set_cons_succ, i64_w, i32_w]
     rfl
    refine pure_ (i := 9) (N := some 5) (v := ?_) (a' := ?_) #[true, true, true, true, true, true, true, true, true, true, false] rfl rfl (any_of HT_.out (by kernel_rfl)) (fun _ _ _ h => h) (Or.inl ⟨by rfl, ?_⟩) ?_ ?_
    rotate_left
    ·intro w'
     go_simp
     with_reducible rfl
    rotate_left
    ·simp only [Act.put, List.setIfInBounds_toArray, List.set_cons_zero, List.set_cons_succ, i64_w, i32_w]
     rfl
    refine pure_ (i := 10) (N := some 6) (v := ?_) (a' := ?_) #[true, true, true, true, true, true, true, true, true, true, true] rfl rfl (any_of HT_.out (by kernel_rfl)) (fun _ _ _ h => h) (Or.inl ⟨by rfl, ?_⟩) ?_ ?_
    rotate_left
    ·intro w'
     go_simp
     with_reducible rfl
    rotate_left
    ·simp only [Act.put, List.setIfInBounds_toArray, List.set_cons_zero, List.set_cons_succ, i64_w, i32_w]
     rfl
    refine done_ (done_of HT_.out (by kernel_rfl)) ?_
    obtain ⟨Ao18, co18, eo18⟩ := Kd.N_slice HO505.out
    subst eo18
    obtain ⟨Ao19, co19, eo19⟩ := Kd.R_slice HO512.out
    subst eo19
    go_upto_region 4 with (first | ((with_reducible refine gate_callee (f := 36) rfl ?_); refine goesL_ (some 24) rfl rfl Tryz.func36 (by kernel_rfl) rfl #[.slice Ao18 t503.length co18, .slice Ao19 y510.length co19] rfl (by (try simp only [List.map_toArray, List.map_cons, List.map_nil]); first | done | rfl | (simp only [List.length_drop, List.length_take]; rfl)) ?_; (with_reducible refine (rows_Groups.calls _ _ t503 _ _ y510 t513 t516 _ ?side1 ?side2 ?side3 ?side4 A8.out).mono ?_); (case side1 => repeat (first | exact (Kd.N_reads' HO505.out).2.2 | (with_reducible refine Kd.C_alloc ?_ _) | (with_reducible refine Kd.C_drewN ?_ _) | (with_reducible refine Kd.C_drew ?_))); (case side2 => exact (Kd.N_reads' HO505.out).2.1); (case side3 => repeat (first | exact (Kd.R_reads' HO512.out).2.2 | (with_reducible refine Kd.C_alloc ?_ _) | (with_reducible refine Kd.C_drewN ?_ _) | (with_reducible refine Kd.C_drew ?_))); (case side4 => exact (Kd.R_reads' HO512.out).2.1); rintro e w20 ⟨v514, rfl, ho0, hb⟩; refine ⟨_, rfl, ?_⟩; have n0_ := Aside0.mk (Kd.N_elder' (by (with_reducible repeat (first | apply Kd.N_alloc | apply Kd.N_drewN | apply Kd.N_drew)); exact HO505.out) (Kd.N_base ho0) hb); have n1_ := Aside0.mk (Kd.R_below (by (with_reducible repeat (first | apply Kd.R_alloc | apply Kd.R_drewN | apply Kd.R_drew)); exact HO512.out) hb); have n2_ := Aside0.mk (Kd.N_lower (Kd.N_mono (ok' := fun k_ => some k_ ≠ (.slice Ao18 t503.length co18 : Value).ownBlock ∧ some k_ ≠ (.slice Ao19 y510.length co19 : Value).ownBlock) ho0 (fun k_ hk_ => ⟨(Kd.fresh' (Kd.N_lt (by (with_reducible repeat (first | apply Kd.N_alloc | apply Kd.N_drewN | apply Kd.N_drew)); exact HO505.out)) k_ hk_), (Kd.fresh' (Kd.R_lt (by (with_reducible repeat (first | apply Kd.R_alloc | apply Kd.R_drewN | apply Kd.R_drew)); exact HO512.out)) k_ hk_)⟩)) (below_size (by repeat (first | (with_reducible first | exact HB.out | apply yA | apply yN | apply yD) | exact HB.out)))); have n3_ := Aside0.mk (below_step (by repeat (first | (with_reducible first | exact HB.out | apply yA | apply yN | apply yD) | exact HB.out)) hb); clear HO505; clear HO512; clear HB; have HO505 := n0_; have HO512 := n1_; have HO515 := n2_; have HB := n3_; clear n0_ n1_ n2_ n3_; (try clear hb); (try clear hk); (try clear ho0)) | ((with_reducible refine gate_callee (f := 17) rfl ?_); refine goesL_ (some 28) rfl rfl Tryz.func17 (by kernel_rfl) rfl #[.slice Ao18 t503.length co18, .slice none 0 0] rfl (by (try simp only [List.map_toArray, List.map_cons, List.map_nil]); first | done | rfl | (simp only [List.length_drop, List.length_take]; rfl)) ?_; (refine (tacticianref02_List.calls k _ _ t503 _ _ ([] : List (List (S61))) t517 _ ?side1 ?side2 ?side3 ?side4 A9.out).mono ?_); (case side1 => repeat (first | exact (Kd.N_reads' HO505.out).2.2 | (with_reducible refine Kd.C_alloc ?_ _) | (with_reducible refine Kd.C_drewN ?_ _) | (with_reducible refine Kd.C_drew ?_))); (case side2 => exact (Kd.N_reads' HO505.out).2.1); (case side3 => exact Kd.C_nil _ _); (case side4 => exact Nat.le_refl _); rintro e w21 ⟨rfl, hb⟩; refine ⟨_, rfl, ?_⟩; have n0_ := Aside0.mk (Kd.N_below (by (with_reducible repeat (first | apply Kd.N_alloc | apply Kd.N_drewN | apply Kd.N_drew)); exact HO505.out) hb); have n1_ := Aside0.mk (Kd.R_below (by (with_reducible repeat (first | apply Kd.R_alloc | apply Kd.R_drewN | apply Kd.R_drew)); exact HO512.out) hb); have n2_ := Aside0.mk (Kd.N_below (by (with_reducible repeat (first | apply Kd.N_alloc | apply Kd.N_drewN | apply Kd.N_drew)); exact HO515.out) hb); have n3_ := Aside0.mk (below_step (by repeat (first | (with_reducible first | exact HB.out | apply yA | apply yN | apply yD) | exact HB.out)) hb); clear HO505; clear HO512; clear HO515; clear HB; have HO505 := n0_; have HO512 := n1_; have HO515 := n2_; have HB := n3_; clear n0_ n1_ n2_ n3_; (try clear hb); (try clear hk)))
    (try simp only [Act.put, List.setIfInBounds_toArray, List.set_cons_zero, List.set_cons_succ])
    go_cut [36] (fun v36 wc => ∃ (kq : Nat) (x36_9 : Bool), v36 = .bool x36_9 ∧ Aside0 (lawGroups.j0 kq t503 y510 t513 t516 t517 x36_9 = some r) ∧ Aside0 (kq ≤ k) ∧ Aside0 (Kd.N (Kd.slice 61 k61) 40 wc w.heap.size (fun k_ => some k_ ≠ ((.slice Ao19 y510.length co19) : Value).ownBlock ∧ some k_ ≠ (v514 : Value).ownBlock) (.slice Ao18 t503.length co18) t503) ∧ Aside0 (Kd.R (Kd.int .i64) 3 wc w.heap.size (fun _ => True) (.slice Ao19 y510.length co19) y510) ∧ Aside0 (Kd.N (Kd.slice 40 (Kd.slice 61 k61)) 22 wc w.heap.size (fun k_ => some k_ ≠ ((.slice Ao18 t503.length co18) : Value).ownBlock ∧ some k_ ≠ ((.slice Ao19 y510.length co19) : Value).ownBlock) v514 t513) ∧ Aside0 (Below w.heap.size w wc))
    case first =>
     have H := HC10.out
     clear HC10
     by_cases c22 : t517 = 0
     ·rw [if_pos c22] at H
      have c22b0 : (t517 == 0) = true := beq_iff_eq.mpr c22
      have c22b1 : (t517 != 0) = false := bne_eq_false_iff_eq.mpr c22
      clear c22
      (first | rw [c22b0] | (simp only [i64_w, i32_w]; rw [c22b0]) | skip)
      replace H := Option.bind_eq_some_iff.mp H
      obtain ⟨t518, A230, H⟩ := H
      replace H : (lawGroups.j0 k t503 y510 t513 t516 t517 (!t518)) = some r := H
      have A23 := Aside0.mk A230
      clear A230
      have H' := Aside0.mk H
      clear H
      go_wp2_with (first | (go_at_call 23; (with_reducible refine (tacticianref02_Places.calls k _ _ t503 _ _ y510 t518 _ ?side1 ?side2 ?side3 ?side4 A23.out).mono ?_); (case side1 => repeat (first | exact (Kd.N_reads' HO505.out).2.2 | (with_reducible refine Kd.C_alloc ?_ _) | (with_reducible refine Kd.C_drewN ?_ _) | (with_reducible refine Kd.C_drew ?_))); (case side2 => exact (Kd.N_reads' HO505.out).2.1); (case side3 => repeat (first | exact (Kd.R_reads' HO512.out).2.2 | (with_reducible refine Kd.C_alloc ?_ _) | (with_reducible refine Kd.C_drewN ?_ _) | (with_reducible refine Kd.C_drew ?_))); (case side4 => exact (Kd.R_reads' HO512.out).2.1); rintro e w' ⟨rfl, ⟨nd, rfl⟩⟩))
      go_meet
      case rel => exact ⟨_, (!t518), (by first | rfl | (simp; done) | (simp [*]; done)), H', ⟨by first | omega | exact Nat.le_refl _⟩, ⟨by (with_reducible repeat (first | apply Kd.N_alloc | apply Kd.N_drewN | apply Kd.N_drew)); exact Kd.N_mono HO505.out (fun _ hk => ⟨hk.1.2, hk.2⟩)⟩, ⟨by (with_reducible repeat (first | apply Kd.R_alloc | apply Kd.R_drewN | apply Kd.R_drew)); exact HO512.out⟩, ⟨by (with_reducible repeat (first | apply Kd.N_alloc | apply Kd.N_drewN | apply Kd.N_drew)); exact HO515.out⟩, ⟨by repeat (first | (with_reducible first | exact HB.out | apply yA | apply yN | apply yD) | exact HB.out)⟩⟩
     ·rw [if_neg c22] at H
      have c22b0 : (t517 == 0) = false := beq_eq_false_iff_ne.mpr c22
      have c22b1 : (t517 != 0) = true := bne_iff_ne.mpr c22
      (first | rw [c22b0] | (simp only [i64_w, i32_w]; rw [c22b0]) | skip)
      have H' := Aside0.mk H
      clear H
      go_wp2
      go_meet
      case rel => exact ⟨_, (false), (by first | rfl | (simp; done) | (simp [*]; done)), H', ⟨by first | omega | exact Nat.le_refl _⟩, ⟨by (with_reducible repeat (first | apply Kd.N_alloc | apply Kd.N_drewN | apply Kd.N_drew)); exact Kd.N_mono HO505.out (fun _ hk => ⟨hk.1.2, hk.2⟩)⟩, ⟨by (with_reducible repeat (first | apply Kd.R_alloc | apply Kd.R_drewN | apply Kd.R_drew)); exact HO512.out⟩, ⟨by (with_reducible repeat (first | apply Kd.N_alloc | apply Kd.N_drewN | apply Kd.N_drew)); exact HO515.out⟩, ⟨by repeat (first | (with_reducible first | exact HB.out | apply yA | apply yN | apply yD) | exact HB.out)⟩⟩
    case rest =>
     clear HC10
     try clear c1
     try clear c2
     try clear p2
     try clear c3
     try clear c5
     try clear c5b0
     try clear c5b1
     try clear c6
     try clear c6b0
     try clear c6b1
     try clear c7
     try clear c14
     try clear c17
     try clear c22
     try clear c22b0
     try clear c22b1
     obtain ⟨kq, x36_9, rfl, HA, HJ9, HO_5, HO_6, HO_7, HB⟩ := hcut
     cases kq with
     | zero => exact absurd HA.out (by simp [lawGroups.j0])
     | succ kj9 =>
      have H := HA.out
      clear HA
      simp only [lawGroups.j0] at H
      have HC24 := Aside0.mk H
      clear H
      go_upto_if 36 with (fail)
      go_cut [9] (fun v9 wc => ∃ (kq : Nat) (x9_23 : Int), v9 = .int .i64 x9_23 ∧ Aside0 (lawGroups.j1 kq t503 y510 t513 t516 x9_23 = some r) ∧ Aside0 (kq ≤ kj9) ∧ Aside0 (Kd.N (Kd.slice 61 k61) 40 wc w.heap.size (fun k_ => some k_ ≠ ((.slice Ao19 y510.length co19) : Value).ownBlock ∧ some k_ ≠ (v514 : Value).ownBlock) (.slice Ao18 t503.length co18) t503) ∧ Aside0 (Kd.R (Kd.int .i64) 3 wc w.heap.size (fun _ => True) (.slice Ao19 y510.length co19) y510) ∧ Aside0 (Kd.N (Kd.slice 40 (Kd.slice 61 k61)) 22 wc w.heap.size (fun k_ => some k_ ≠ ((.slice Ao18 t503.length co18) : Value).ownBlock ∧ some k_ ≠ ((.slice Ao19 y510.length co19) : Value).ownBlock) v514 t513) ∧ Aside0 (Below w.heap.size w wc))
      case first =>
       have H := HC24.out
       clear HC24
       by_cases c25 : x36_9 = true
       ·subst c25
        have H1 : (lawGroups.j1 kj9 t503 y510 t513 t516 1) = some r := by rw [if_pos rfl] at H; exact H
        clear H
        have H := H1
        clear H1
        have H' := Aside0.mk H
        clear H
        go_wp2
        go_meet
        case rel => exact ⟨_, (1), (by first | rfl | (simp; done) | (simp [*]; done)), H', ⟨by have := HJ9.out; first | omega | exact Nat.le_refl _⟩, ⟨by (with_reducible repeat (first | apply Kd.N_alloc | apply Kd.N_drewN | apply Kd.N_drew)); exact HO_5.out⟩, ⟨by (with_reducible repeat (first | apply Kd.R_alloc | apply Kd.R_drewN | apply Kd.R_drew)); exact HO_6.out⟩, ⟨by (with_reducible repeat (first | apply Kd.N_alloc | apply Kd.N_drewN | apply Kd.N_drew)); exact HO_7.out⟩, ⟨by repeat (first | (with_reducible first | exact HB.out | apply yA | apply yN | apply yD) | exact HB.out)⟩⟩
       ·replace c25 := Bool.eq_false_iff.mpr c25
        subst c25
        have H1 : (lawGroups.j1 kj9 t503 y510 t513 t516 t517) = some r := by rw [if_neg (show ¬ (false = true) by decide)] at H; exact H
        clear H
        have H := H1
        clear H1
        have H' := Aside0.mk H
        clear H
        go_wp2
        go_meet
        case rel => exact ⟨_, (t517), (by first | rfl | (simp; done) | (simp [*]; done)), H', ⟨by have := HJ9.out; first | omega | exact Nat.le_refl _⟩, ⟨by (with_reducible repeat (first | apply Kd.N_alloc | apply Kd.N_drewN | apply Kd.N_drew)); exact HO_5.out⟩, ⟨by (with_reducible repeat (first | apply Kd.R_alloc | apply Kd.R_drewN | apply Kd.R_drew)); exact HO_6.out⟩, ⟨by (with_reducible repeat (first | apply Kd.N_alloc | apply Kd.N_drewN | apply Kd.N_drew)); exact HO_7.out⟩, ⟨by repeat (first | (with_reducible first | exact HB.out | apply yA | apply yN | apply yD) | exact HB.out)⟩⟩
      case rest =>
       clear HC24
       try clear c1
       try clear c2
       try clear p2
       try clear c3
       try clear c5
       try clear c5b0
       try clear c5b1
       try clear c6
       try clear c6b0
       try clear c6b1
       try clear c7
       try clear c14
       try clear c17
       try clear c22
       try clear c22b0
       try clear c22b1
       try clear c25
       try clear p2
       obtain ⟨kq, x9_23, rfl, HA, HJ23, HO_5, HO_6, HO_7, HB⟩ := hcut
       cases kq with
       | zero => exact absurd HA.out (by simp [lawGroups.j1])
       | succ kj23 =>
        have H := HA.out
        clear HA
        simp only [lawGroups.j1] at H
        by_cases c26 : x9_23 = 0
        ·rw [if_pos c26] at H
         have c26b0 : (x9_23 == 0) = true := beq_iff_eq.mpr c26
         have c26b1 : (x9_23 != 0) = false := bne_eq_false_iff_eq.mpr c26
         clear c26
         replace H := Option.bind_eq_some_iff.mp H
         obtain ⟨t520, A270, H⟩ := H
         replace H : (lawGroups.l0 kj23 t513 t516 t520 0) = some r := H
         have A27 := Aside0.mk A270
         clear A270
         have H' := Aside0.mk H
         clear H
         go_wp2_with (first | ((with_reducible refine gate_callee (f := 37) rfl ?_); refine goesL_ (some 52) rfl rfl Tryz.func37 (by kernel_rfl) rfl #[.slice Ao18 t503.length co18, .slice Ao19 y510.length co19] rfl (by (try simp only [List.map_toArray, List.map_cons, List.map_nil]); first | done | rfl | (simp only [List.length_drop, List.length_take]; rfl)) ?_; (with_reducible refine (tacticianref02_Groups.calls kj23 _ _ t503 _ _ y510 t520 _ ?side1 ?side2 ?side3 ?side4 A27.out).mono ?_); (case side1 => repeat (first | exact (Kd.N_reads' HO_5.out).2.2 | (with_reducible refine Kd.C_alloc ?_ _) | (with_reducible refine Kd.C_drewN ?_ _) | (with_reducible refine Kd.C_drew ?_))); (case side2 => exact (Kd.N_reads' HO_5.out).2.1); (case side3 => repeat (first | exact (Kd.R_reads' HO_6.out).2.2 | (with_reducible refine Kd.C_alloc ?_ _) | (with_reducible refine Kd.C_drewN ?_ _) | (with_reducible refine Kd.C_drew ?_))); (case side4 => exact (Kd.R_reads' HO_6.out).2.1); rintro e w28 ⟨v521, rfl, ho0, hb⟩; refine ⟨_, rfl, ?_⟩; have n0_ := Aside0.mk (Kd.N_elder' (by (with_reducible repeat (first | apply Kd.N_alloc | apply Kd.N_drewN | apply Kd.N_drew)); exact HO_5.out) (Kd.N_base ho0) hb); have n1_ := Aside0.mk (Kd.R_below (by (with_reducible repeat (first | apply Kd.R_alloc | apply Kd.R_drewN | apply Kd.R_drew)); exact HO_6.out) hb); have n2_ := Aside0.mk (Kd.N_elder' (by (with_reducible repeat (first | apply Kd.N_alloc | apply Kd.N_drewN | apply Kd.N_drew)); exact HO_7.out) (Kd.N_base ho0) hb); have n3_ := Aside0.mk (Kd.N_lower (Kd.N_mono (ok' := fun k_ => some k_ ≠ (.slice Ao18 t503.length co18 : Value).ownBlock ∧ some k_ ≠ (.slice Ao19 y510.length co19 : Value).ownBlock ∧ some k_ ≠ (v514 : Value).ownBlock) ho0 (fun k_ hk_ => ⟨(Kd.fresh' (Kd.N_lt (by (with_reducible repeat (first | apply Kd.N_alloc | apply Kd.N_drewN | apply Kd.N_drew)); exact HO_5.out)) k_ hk_), (Kd.fresh' (Kd.R_lt (by (with_reducible repeat (first | apply Kd.R_alloc | apply Kd.R_drewN | apply Kd.R_drew)); exact HO_6.out)) k_ hk_), (Kd.fresh' (Kd.N_lt (by (with_reducible repeat (first | apply Kd.N_alloc | apply Kd.N_drewN | apply Kd.N_drew)); exact HO_7.out)) k_ hk_)⟩)) (below_size (by repeat (first | (with_reducible first | exact HB.out | apply yA | apply yN | apply yD) | exact HB.out)))); have n4_ := Aside0.mk (below_step (by repeat (first | (with_reducible first | exact HB.out | apply yA | apply yN | apply yD) | exact HB.out)) hb); clear HO_5; clear HO_6; clear HO_7; clear HB; have HO_5 := n0_; have HO_6 := n1_; have HO_7 := n2_; have HO522 := n3_; have HB := n4_; clear n0_ n1_ n2_ n3_ n4_; (try clear hb); (try clear hk); (try clear ho0)))
         go_loopg [11] kj23 (fun kq v11 w' => ∃ (x11_3 : Int), v11 = .int .i64 x11_3 ∧ Aside0 (lawGroups.l0 kq t513 t516 t520 x11_3 = some r) ∧ Aside0 (kq ≤ kj23) ∧ Aside0 (Kd.N (Kd.slice 40 (Kd.slice 61 k61)) 22 w' w.heap.size (fun k_ => some k_ ≠ (v521 : Value).ownBlock) v514 t513) ∧ Aside0 (Kd.N (Kd.slice 40 (Kd.slice 61 k61)) 22 w' w.heap.size (fun k_ => some k_ ≠ (v514 : Value).ownBlock) v521 t520) ∧ Aside0 (Below w.heap.size w w'))
         case atStart => exact ⟨(0), (by first | rfl | (simp; done) | (simp [*]; done)), H', ⟨Nat.le_refl _⟩, ⟨by (with_reducible repeat (first | apply Kd.N_alloc | apply Kd.N_drewN | apply Kd.N_drew)); exact Kd.N_mono HO_7.out (fun _ hk => hk.2)⟩, ⟨by (with_reducible repeat (first | apply Kd.N_alloc | apply Kd.N_drewN | apply Kd.N_drew)); exact Kd.N_mono HO522.out (fun _ hk => hk.2.2)⟩, ⟨by repeat (first | (with_reducible first | exact HB.out | apply yA | apply yN | apply yD) | exact HB.out)⟩⟩
         case round =>
          clear H'
          try clear c1
          try clear c2
          try clear p2
          try clear c3
          try clear c5
          try clear c5b0
          try clear c5b1
          try clear c6
          try clear c6b0
          try clear c6b1
          try clear c7
          try clear c14
          try clear c17
          try clear c22
          try clear c22b0
          try clear c22b1
          try clear c25
          try clear c26
          try clear c26b0
          try clear c26b1
          try clear p2
          obtain ⟨x11_3, rfl, HA, HK3, HO_7, HO_10, HB⟩ := hrel
          cases gk with
          | zero => exact absurd HA.out (by simp [lawGroups.l0])
          | succ k3 =>
           have H := HA.out
           clear HA
           simp only [lawGroups.l0] at H
           have HC29 := Aside0.mk H
           clear H
           go_upto_region 10 with (fail)
           go_cut [62] (fun v62 wc => ∃ (kq : Nat) (x62_28 : Bool), v62 = .bool x62_28 ∧ Aside0 (lawGroups.j3 kq t513 t516 t520 x11_3 x62_28 = some r) ∧ Aside0 (kq ≤ k3) ∧ Aside0 (Kd.N (Kd.slice 40 (Kd.slice 61 k61)) 22 wc w.heap.size (fun k_ => some k_ ≠ (v521 : Value).ownBlock) v514 t513) ∧ Aside0 (Kd.N (Kd.slice 40 (Kd.slice 61 k61)) 22 wc w.heap.size (fun k_ => some k_ ≠ (v514 : Value).ownBlock) v521 t520) ∧ Aside0 (Below w.heap.size w wc))
           case first =>
            have H := HC29.out
            clear HC29
            by_cases c30 : x11_3 < (t513.length : Int)
            ·rw [if_pos c30] at H
             have c30b0 : decide (x11_3 < (t513.length : Int)) = true := decide_eq_true c30
             clear c30
             (first | rw [c30b0] | (simp only [i64_w, i32_w]; rw [c30b0]) | skip)
             have H' := Aside0.mk H
             clear H
             obtain ⟨Ao31, co31, eo31⟩ := Kd.N_slice HO_7.out
             subst eo31
             obtain ⟨Ao32, co32, eo32⟩ := Kd.N_slice HO_10.out
             subst eo32
             go_wp2
             go_meet
             case rel => exact ⟨_, (decide (x11_3 < (t520.length : Int))), (by first | rfl | (simp; done) | (simp [*]; done)), H', ⟨by have := HJ9.out; have := HJ23.out; have := HK3.out; first | omega | exact Nat.le_refl _⟩, ⟨by (with_reducible repeat (first | apply Kd.N_alloc | apply Kd.N_drewN | apply Kd.N_drew)); exact HO_7.out⟩, ⟨by (with_reducible repeat (first | apply Kd.N_alloc | apply Kd.N_drewN | apply Kd.N_drew)); exact HO_10.out⟩, ⟨by repeat (first | (with_reducible first | exact HB.out | apply yA | apply yN | apply yD) | exact HB.out)⟩⟩
            ·rw [if_neg c30] at H
             have c30b0 : decide (x11_3 < (t513.length : Int)) = false := decide_eq_false c30
             clear c30
             (first | rw [c30b0] | (simp only [i64_w, i32_w]; rw [c30b0]) | skip)
             have H' := Aside0.mk H
             clear H
             obtain ⟨Ao33, co33, eo33⟩ := Kd.N_slice HO_7.out
             subst eo33
             go_wp2
             go_meet
             case rel => exact ⟨_, (false), (by first | rfl | (simp; done) | (simp [*]; done)), H', ⟨by have := HJ9.out; have := HJ23.out; have := HK3.out; first | omega | exact Nat.le_refl _⟩, ⟨by (with_reducible repeat (first | apply Kd.N_alloc | apply Kd.N_drewN | apply Kd.N_drew)); exact HO_7.out⟩, ⟨by (with_reducible repeat (first | apply Kd.N_alloc | apply Kd.N_drewN | apply Kd.N_drew)); exact HO_10.out⟩, ⟨by repeat (first | (with_reducible first | exact HB.out | apply yA | apply yN | apply yD) | exact HB.out)⟩⟩
           case rest =>
            clear HC29
            try clear c1
            try clear c2
            try clear p2
            try clear c3
            try clear c5
            try clear c5b0
            try clear c5b1
            try clear c6
            try clear c6b0
            try clear c6b1
            try clear c7
            try clear c14
            try clear c17
            try clear c22
            try clear c22b0
            try clear c22b1
            try clear c25
            try clear c26
            try clear c26b0
            try clear c26b1
            try clear c30
            try clear c30b0
            try clear p2
            obtain ⟨kq, x62_28, rfl, HA, HJ28, HO_7, HO_10, HB⟩ := hcut
            cases kq with
            | zero => exact absurd HA.out (by simp [lawGroups.j3])
            | succ kj28 =>
             have H := HA.out
             clear HA
             simp only [lawGroups.j3] at H
             by_cases c34 : x62_28 = true
             ·subst c34
              have H1 : (if 0 ≤ x11_3 then (if x11_3 < (t513.length : Int) then (if x11_3 < (t520.length : Int) then ((tacticianref02_Equal.f kj28 (rd_L4 t513 x11_3) (rd_L4 t520 x11_3)).bind fun t525 => (if t525 = true then (lawGroups.l0 kj28 t513 t516 t520 (wrap64 (x11_3 + 1))) else (some false))) else (none)) else (none)) else (none)) = some r := by rw [if_pos rfl] at H; exact H
              clear H
              have H := H1
              clear H1
              by_cases c35 : 0 ≤ x11_3
              ·rw [if_pos c35] at H
               have c35b0 : decide (0 ≤ x11_3) = true := decide_eq_true c35
               clear c35
               by_cases c36 : x11_3 < (t513.length : Int)
               ·rw [if_pos c36] at H
                have c36b0 : decide (x11_3 < (t513.length : Int)) = true := decide_eq_true c36
                clear c36
                by_cases c37 : x11_3 < (t520.length : Int)
                ·rw [if_pos c37] at H
                 have c37b0 : decide (x11_3 < (t520.length : Int)) = true := decide_eq_true c37
                 clear c37
                 replace H := Option.bind_eq_some_iff.mp H
                 obtain ⟨t525, A380, H⟩ := H
                 replace H : (if t525 = true then (lawGroups.l0 kj28 t513 t516 t520 (wrap64 (x11_3 + 1))) else (some false)) = some r := H
                 have A38 := Aside0.mk A380
                 clear A380
                 by_cases c39 : t525 = true
                 ·subst c39
                  have H1 : (lawGroups.l0 kj28 t513 t516 t520 (wrap64 (x11_3 + 1))) = some r := by rw [if_pos rfl] at H; exact H
                  clear H
                  have H := H1
                  clear H1
                  have H' := Aside0.mk H
                  clear H
                  try go_wp2
                  have n0_ := Aside0.mk (Kd.N_drew HO_7.out)
                  have n1_ := Aside0.mk (Kd.N_drew HO_10.out)
                  have n2_ := Aside0.mk (below_drew1 HB.out)
                  clear HO_7
                  clear HO_10
                  clear HB
                  have HO_7 := n0_
                  have HO_10 := n1_
                  have HB := n2_
                  clear n0_ n1_ n2_
                  obtain ⟨Ao41, co41, eo41⟩ := Kd.N_slice HO_7.out
                  (first | subst eo41 | (injection eo41 with f1_ f2_ f3_; have f4_ := f1_.symm; have f5_ := f3_.symm; clear f1_ f2_ f3_; subst f4_; subst f5_))
                  have p523 : 0 ≤ (x11_3 : Int) := of_decide_eq_true (by first | (with_reducible assumption) | assumption)
                  have q523 : x11_3 < (t513.length : Int) := of_decide_eq_true (by first | (with_reducible assumption) | assumption)
                  obtain ⟨ad523, A523_0, c523_0, e523, hx523_0, hl523_0, hi523_0⟩ := at_L4 (Kd.N_reads' HO_7.out).2.2 x11_3 p523 q523
                  cases e523
                  obtain ⟨ce523, hce523, hMe523, hcc523⟩ := Kd.N_get HO_7.out [] x11_3 p523 (by first | exact q523 | exact of_decide_eq_true (by first | (with_reducible assumption) | assumption) | (have e_ := (Kd.N_reads' HO_7.out).1; omega))
                  obtain ⟨ua523_0, uc523_0, rfl, ul523_0, ge523_0⟩ := Kd.FK_slice_open hMe523
                  have hv523_0 := hcc523 0 _ rfl
                  rw [Nat.add_zero, show ((Kd.slice 40 (Kd.slice 61 k61))).sz = 1 from rfl, Nat.mul_one] at hv523_0
                  replace hv523_0 := Option.some.inj (hv523_0.symm.trans hx523_0)
                  injection hv523_0 with hva_ hvn_ hvc_
                  rw [hva_] at ge523_0
                  rw [hvc_] at ul523_0
                  have HL523_0 := Aside0.mk (show Kd.V (Kd.slice 61 k61) 40 _ w.heap.size _ _ (rd_L4 t513 x11_3) from Kd.V_mk ul523_0 ge523_0)
                  clear hva_ hvn_ hvc_ ge523_0 ul523_0
                  clear hcc523 hce523
                  have HR523_0 := Aside0.mk hi523_0
                  have HC523_0 := Aside0.mk hl523_0
                  clear hi523_0 hl523_0
                  replace p523 := eq_true p523
                  replace q523 := eq_true q523
                  obtain ⟨Ao42, co42, eo42⟩ := Kd.N_slice HO_10.out
                  (first | subst eo42 | (injection eo42 with f1_ f2_ f3_; have f4_ := f1_.symm; have f5_ := f3_.symm; clear f1_ f2_ f3_; subst f4_; subst f5_))
                  have p524 : 0 ≤ (x11_3 : Int) := of_decide_eq_true (by first | (with_reducible assumption) | assumption)
                  have q524 : x11_3 < (t520.length : Int) := of_decide_eq_true (by first | (with_reducible assumption) | assumption)
                  obtain ⟨ad524, A524_0, c524_0, e524, hx524_0, hl524_0, hi524_0⟩ := at_L4 (Kd.N_reads' HO_10.out).2.2 x11_3 p524 q524
                  cases e524
                  obtain ⟨ce524, hce524, hMe524, hcc524⟩ := Kd.N_get HO_10.out [] x11_3 p524 (by first | exact q524 | exact of_decide_eq_true (by first | (with_reducible assumption) | assumption) | (have e_ := (Kd.N_reads' HO_10.out).1; omega))
                  obtain ⟨ua524_0, uc524_0, rfl, ul524_0, ge524_0⟩ := Kd.FK_slice_open hMe524
                  have hv524_0 := hcc524 0 _ rfl
                  rw [Nat.add_zero, show ((Kd.slice 40 (Kd.slice 61 k61))).sz = 1 from rfl, Nat.mul_one] at hv524_0
                  replace hv524_0 := Option.some.inj (hv524_0.symm.trans hx524_0)
                  injection hv524_0 with hva_ hvn_ hvc_
                  rw [hva_] at ge524_0
                  rw [hvc_] at ul524_0
                  have HL524_0 := Aside0.mk (show Kd.V (Kd.slice 61 k61) 40 _ w.heap.size _ _ (rd_L4 t520 x11_3) from Kd.V_mk ul524_0 ge524_0)
                  clear hva_ hvn_ hvc_ ge524_0 ul524_0
                  clear hcc524 hce524
                  have HR524_0 := Aside0.mk hi524_0
                  have HC524_0 := Aside0.mk hl524_0
                  clear hi524_0 hl524_0
                  replace p524 := eq_true p524
                  replace q524 := eq_true q524
                  refine start_ (n := 10) (S := fun w' => w'.cell? (ad523.add (x11_3).toNat) = some (.slice A523_0 (rd_L4 t513 x11_3).length c523_0) ∧ w'.cell? (ad524.add (x11_3).toNat) = some (.slice A524_0 (rd_L4 t520 x11_3).length c524_0)) (ds := []) #[false, false, false, false, false, false, false, false, false, false] (by kernel_rfl) rfl rfl ⟨hx523_0, hx524_0⟩ (fun hHeld => ?_); refine with_tabW lawGroups.tab12 lawGroups.bits12 (fun HT_ HW_ => ?_)
                  generalize wc.drew = w40 at HO_7 HO_10 HB HL523_0 HL524_0 HR523_0 HR524_0 hx523_0 hx524_0 hHeld ⊢
                  refine pure_ (i := 0) (N := some 65) (v := ?_) (a' := ?_) #[true, false, false, false, false, false, false, false, false, false] rfl rfl (any_of HT_.out (by kernel_rfl)) (fun _ _ _ h => h) (Or.inl ⟨by rfl, ?_⟩) ?_ ?_
                  rotate_left
                  ·intro w'
                   go_simp
                   with_reducible rfl
                  rotate_left
                  ·simp only [Act.put, List.setIfInBounds_toArray, List.set_cons_zero, List.set_cons_succ, i64_w, i32_w]
                   rfl
                  refine pure_ (i := 1) (N := some 66) (v := ?_) (a' := ?_) #[true, true, false, false, false, false, false, false, false, false] rfl rfl (any_of HT_.out (by kernel_rfl)) (fun _ _ _ h => h) (Or.inl ⟨by rfl, ?_⟩) ?_ ?_
                  rotate_left
                  ·intro w'
                   go_simp
                   with_reducible rfl
                  rotate_left
                  ·simp only [Act.put, List.setIfInBounds_toArray, List.set_cons_zero, List.set_cons_succ, i64_w, i32_w]
                   rfl
                  refine pure_ (i := 2) (N := some 67) (v := ?_) (a' := ?_) #[true, true, true, false, false, false, false, false, false, false] rfl rfl (any_of HT_.out (by kernel_rfl)) (fun _ _ _ h => h) (Or.inl ⟨by rfl, ?_⟩) ?_ ?_
                  rotate_left
                  ·intro w'
                   go_simp
                   with_reducible rfl
                  rotate_left
                  ·simp only [Act.put, List.setIfInBounds_toArray, List.set_cons_zero, List.set_cons_succ, i64_w, i32_w]
                   rfl
                  refine pure_ (i := 4) (N := some 69) (v := ?_) (a' := ?_) #[true, true, true, false, true, false, false, false, false, false] rfl rfl (any_of HT_.out (by kernel_rfl)) (fun _ _ _ h => h) (Or.inl ⟨by rfl, ?_⟩) ?_ ?_
                  rotate_left
                  ·intro w'
                   go_simp
                   with_reducible rfl
                  rotate_left
                  ·simp only [Act.put, List.setIfInBounds_toArray, List.set_cons_zero, List.set_cons_succ, i64_w, i32_w]
                   rfl
                  refine pure_ (i := 5) (N := some 70) (v := ?_) (a' := ?_) #[true, true, true, false, true, true, false, false, false, false] rfl rfl (any_of HT_.out (by kernel_rfl)) (fun _ _ _ h => h) (Or.inl ⟨by rfl, ?_⟩) ?_ ?_
                  rotate_left
                  ·intro w'
                   go_simp
                   with_reducible rfl
                  rotate_left
                  ·simp only [Act.put, List.setIfInBounds_toArray, List.set_cons_zero, List.set_cons_succ, i64_w, i32_w]
                   rfl
                  refine pure_ (i := 6) (N := some 71) (v := ?_) (a' := ?_) #[true, true, true, false, true, true, true, false, false, false] rfl rfl (any_of HT_.out (by kernel_rfl)) (fun _ _ _ h => h) (Or.inl ⟨by rfl, ?_⟩) ?_ ?_
                  rotate_left
                  ·intro w'
                   go_simp
                   with_reducible rfl
                  rotate_left
                  ·simp only [Act.put, List.setIfInBounds_toArray, List.set_cons_zero, List.set_cons_succ, i64_w, i32_w]
                   rfl
                  refine take_ (i := 3) (N := some 68) (v := ?_) (a' := ?_) #[true, true, true, true, true, true, true, false, false, false] rfl rfl (take_ofW HT_.out HW_.out (by kernel_rfl)) (fun _ _ _ h => h) (Or.inl ⟨by rfl, ?_⟩) hHeld ?_ ?_
                  rotate_left
                  ·rintro w' ⟨s0, s1⟩
                   go_simp
                   with_reducible rfl
                  rotate_left
                  ·simp only [Act.put, List.setIfInBounds_toArray, List.set_cons_zero, List.set_cons_succ, i64_w, i32_w]
                   rfl
                  refine take_ (i := 7) (N := some 72) (v := ?_) (a' := ?_) #[true, true, true, true, true, true, true, true, false, false] rfl rfl (take_ofW HT_.out HW_.out (by kernel_rfl)) (fun _ _ _ h => h) (Or.inl ⟨by rfl, ?_⟩) hHeld ?_ ?_
                  rotate_left
                  ·rintro w' ⟨s0, s1⟩
                   go_simp
                   with_reducible rfl
                  rotate_left
                  ·simp only [Act.put, List.setIfInBounds_toArray, List.set_cons_zero, List.set_cons_succ, i64_w, i32_w]
                   rfl
                  refine one_ (i := 8) (N := some 73) #[true, true, true, true, true, true, true, true, true, false] rfl rfl (one_of HT_.out (by kernel_rfl)) (by decide) (fun K hK => ?_)
                  refine goes_ Tryz.func19 (by kernel_rfl) rfl #[.slice A523_0 (rd_L4 t513 x11_3).length c523_0, .slice A524_0 (rd_L4 t520 x11_3).length c524_0] (by rfl) rfl rfl (by (try simp only [List.map_toArray, List.map_cons, List.map_nil]); first | done | rfl | (simp only [List.length_drop, List.length_take]; rfl)) ?_
                  with_reducible refine (tacticianref02_Equal.calls kj28 _ _ (rd_L4 t513 x11_3) _ _ (rd_L4 t520 x11_3) true _ ?side1 ?side2 ?side3 ?side4 A38.out).mono ?_
                  (case side1 => repeat (first | exact (by repeat (first | (with_reducible exact HR523_0.out) | (with_reducible refine Kd.C_alloc ?_ _) | (with_reducible refine Kd.C_drewN ?_ _) | (with_reducible refine Kd.C_drew ?_) | exact HR523_0.out)) | (with_reducible refine Kd.C_alloc ?_ _) | (with_reducible refine Kd.C_drewN ?_ _) | (with_reducible refine Kd.C_drew ?_)))
                  (case side2 => exact HC523_0.out)
                  (case side3 => repeat (first | exact (by repeat (first | (with_reducible exact HR524_0.out) | (with_reducible refine Kd.C_alloc ?_ _) | (with_reducible refine Kd.C_drewN ?_ _) | (with_reducible refine Kd.C_drew ?_) | exact HR524_0.out)) | (with_reducible refine Kd.C_alloc ?_ _) | (with_reducible refine Kd.C_drewN ?_ _) | (with_reducible refine Kd.C_drew ?_)))
                  (case side4 => exact HC524_0.out)
                  rintro e w43 ⟨rfl, hb⟩
                  have HS0_ := (hb.cell (World.block_lt_of_cell? _ _ (hHeld.1))).trans (hHeld.1)
                  have HS1_ := (hb.cell (World.block_lt_of_cell? _ _ (hHeld.2))).trans (hHeld.2)
                  refine ⟨_, rfl, ?_⟩
                  have n0_ := Aside0.mk (Kd.N_below (by (with_reducible repeat (first | apply Kd.N_alloc | apply Kd.N_drewN | apply Kd.N_drew)); exact HO_7.out) hb)
                  have n1_ := Aside0.mk (Kd.N_below (by (with_reducible repeat (first | apply Kd.N_alloc | apply Kd.N_drewN | apply Kd.N_drew)); exact HO_10.out) hb)
                  have n2_ := Aside0.mk (Kd.V_below (by (with_reducible repeat (first | apply Kd.V_alloc | apply Kd.V_drewN | apply Kd.V_drew)); exact HL523_0.out) hb)
                  have n3_ := Aside0.mk (Kd.V_below (by (with_reducible repeat (first | apply Kd.V_alloc | apply Kd.V_drewN | apply Kd.V_drew)); exact HL524_0.out) hb)
                  have n4_ := Aside0.mk (Kd.C_below (by repeat (first | (with_reducible exact HR523_0.out) | (with_reducible refine Kd.C_alloc ?_ _) | (with_reducible refine Kd.C_drewN ?_ _) | (with_reducible refine Kd.C_drew ?_) | exact HR523_0.out)) hb)
                  have n5_ := Aside0.mk (Kd.C_below (by repeat (first | (with_reducible exact HR524_0.out) | (with_reducible refine Kd.C_alloc ?_ _) | (with_reducible refine Kd.C_drewN ?_ _) | (with_reducible refine Kd.C_drew ?_) | exact HR524_0.out)) hb)
                  have n6_ := Aside0.mk (below_step (by repeat (first | (with_reducible first | exact HB.out | apply yA | apply yN | apply yD) | exact HB.out)) hb)
                  clear HO_7
                  clear HO_10
                  clear HL523_0
                  clear HL524_0
                  clear HR523_0
                  clear HR524_0
                  clear HB
                  have HO_7 := n0_
                  have HO_10 := n1_
                  have HL523_0 := n2_
                  have HL524_0 := n3_
                  have HR523_0 := n4_
                  have HR524_0 := n5_
                  have HB := n6_
                  clear n0_ n1_ n2_ n3_ n4_ n5_ n6_
                  (try clear hb)
                  (try clear hb2)
                  (try clear hk)
                  (try clear hi)
                  refine hK.out _ _ ⟨HS0_, HS1_⟩ (fun hHeld => ?_)
                  clear hK K
                  refine norm_ (a' := ?_) ?_ ?_
                  rotate_left
                  ·show Act.put _ (some 73) _ = _
                   simp only [Act.put, List.setIfInBounds_toArray, List.set_cons_zero, List.set_cons_succ, i64_w, i32_w]
                   rfl
                  refine pure_ (i := 9) (N := some 74) (v := ?_) (a' := ?_) #[true, true, true, true, true, true, true, true, true, true] rfl rfl (any_of HT_.out (by kernel_rfl)) (fun _ _ _ h => h) (Or.inl ⟨by rfl, ?_⟩) ?_ ?_
                  rotate_left
                  ·intro w'
                   go_simp
                   with_reducible rfl
                  rotate_left
                  ·simp only [Act.put, List.setIfInBounds_toArray, List.set_cons_zero, List.set_cons_succ, i64_w, i32_w]
                   rfl
                  refine done_ (done_of HT_.out (by kernel_rfl)) ?_
                  try go_wp2
                  go_roundg kj28
                  case measure => have := HJ9.out; have := HJ23.out; have := HK3.out; have := HJ28.out; omega
                  case rel => exact ⟨(wrap64 (x11_3 + 1)), (by first | rfl | (simp; done) | (simp [*]; done)), H', ⟨by have := HJ9.out; have := HJ23.out; have := HK3.out; have := HJ28.out; omega⟩, ⟨by (with_reducible repeat (first | apply Kd.N_alloc | apply Kd.N_drewN | apply Kd.N_drew)); exact HO_7.out⟩, ⟨by (with_reducible repeat (first | apply Kd.N_alloc | apply Kd.N_drewN | apply Kd.N_drew)); exact HO_10.out⟩, ⟨by repeat (first | (with_reducible first | exact HB.out | apply yA | apply yN | apply yD) | exact HB.out)⟩⟩
                 ·replace c39 := Bool.eq_false_iff.mpr c39
                  subst c39
                  have H1 : (some false) = some r := by rw [if_neg (show ¬ (false = true) by decide)] at H; exact H
                  clear H
                  have H := H1
                  clear H1
                  exact absurd ((Option.some.inj H).trans hr_.out) (by decide)
                ·rw [if_neg c37] at H
                 exact absurd H (by simp)
               ·rw [if_neg c36] at H
                exact absurd H (by simp)
              ·rw [if_neg c35] at H
               exact absurd H (by simp)
             ·replace c34 := Bool.eq_false_iff.mpr c34
              subst c34
              have H1 : (if (t513.length : Int) = (t520.length : Int) then (if t516 = 0 then ((tacticianlaw02_awake.f).bind fun t526 => (some t526)) else (some false)) else (some false)) = some r := by rw [if_neg (show ¬ (false = true) by decide)] at H; exact H
              clear H
              have H := H1
              clear H1
              by_cases c44 : (t513.length : Int) = (t520.length : Int)
              ·rw [if_pos c44] at H
               have c44b0 : ((t513.length : Int) == (t520.length : Int)) = true := beq_iff_eq.mpr c44
               have c44b1 : ((t513.length : Int) != (t520.length : Int)) = false := bne_eq_false_iff_eq.mpr c44
               have c44b2 : (t513.length == t520.length) = true := by first | simpa using c44 | (simp at c44 ⊢; omega)
               clear c44
               by_cases c45 : t516 = 0
               ·rw [if_pos c45] at H
                have c45b0 : (t516 == 0) = true := beq_iff_eq.mpr c45
                have c45b1 : (t516 != 0) = false := bne_eq_false_iff_eq.mpr c45
                clear c45
                replace H := Option.bind_eq_some_iff.mp H
                obtain ⟨t526, A460, H⟩ := H
                replace H : (some t526) = some r := H
                have A46 := Aside0.mk A460
                clear A460
                obtain rfl := Option.some.inj H
                obtain ⟨Ao47, co47, eo47⟩ := Kd.N_slice HO_7.out
                subst eo47
                obtain ⟨Ao48, co48, eo48⟩ := Kd.N_slice HO_10.out
                subst eo48
                go_wp2_with (first | (go_at_call 18; (with_reducible refine (tacticianlaw02_awake.calls  t526 _ ?side1 A46.out).mono ?_); (case side1 => exact Laid.below HLD.out (by repeat (first | (with_reducible first | exact HB.out | apply yA | apply yN | apply yD) | exact HB.out))); rintro e w49 ⟨rfl, hb⟩; have n0_ := Aside0.mk (Kd.N_below (by (with_reducible repeat (first | apply Kd.N_alloc | apply Kd.N_drewN | apply Kd.N_drew)); exact HO_7.out) hb); have n1_ := Aside0.mk (Kd.N_below (by (with_reducible repeat (first | apply Kd.N_alloc | apply Kd.N_drewN | apply Kd.N_drew)); exact HO_10.out) hb); have n2_ := Aside0.mk (below_step (by repeat (first | (with_reducible first | exact HB.out | apply yA | apply yN | apply yD) | exact HB.out)) hb); clear HO_7; clear HO_10; clear HB; have HO_7 := n0_; have HO_10 := n1_; have HB := n2_; clear n0_ n1_ n2_; (try clear hb); (try clear hk)))
                go_ret
                exact ⟨by first | rfl | (simp [errW_none, errW_some] <;> rfl) | (simp only [← hji4]; first | rfl | (simp [errW_none, errW_some] <;> rfl)) | (simp [*, errW_none, errW_some] <;> rfl), by repeat (first | (with_reducible first | exact HB.out | apply yA | apply yN | apply yD) | exact HB.out)⟩
               ·rw [if_neg c45] at H
                have c45b0 : (t516 == 0) = false := beq_eq_false_iff_ne.mpr c45
                have c45b1 : (t516 != 0) = true := bne_iff_ne.mpr c45
                exact absurd ((Option.some.inj H).trans hr_.out) (by decide)
              ·rw [if_neg c44] at H
               have c44b0 : ((t513.length : Int) == (t520.length : Int)) = false := beq_eq_false_iff_ne.mpr c44
               have c44b1 : ((t513.length : Int) != (t520.length : Int)) = true := bne_iff_ne.mpr c44
               have c44b2 : (t513.length == t520.length) = false := by first | simpa using c44 | (simp at c44 ⊢; omega)
               exact absurd ((Option.some.inj H).trans hr_.out) (by decide)
        ·rw [if_neg c26] at H
         have c26b0 : (x9_23 == 0) = false := beq_eq_false_iff_ne.mpr c26
         have c26b1 : (x9_23 != 0) = true := bne_iff_ne.mpr c26
         by_cases c50 : (t513.length : Int) = 0
         ·rw [if_pos c50] at H
          have c50b0 : ((t513.length : Int) == 0) = true := beq_iff_eq.mpr c50
          have c50b1 : ((t513.length : Int) != 0) = false := bne_eq_false_iff_eq.mpr c50
          clear c50
          by_cases c51 : t516 = x9_23
          ·rw [if_pos c51] at H
           have c51b0 : (t516 == x9_23) = true := beq_iff_eq.mpr c51
           have c51b1 : (t516 != x9_23) = false := bne_eq_false_iff_eq.mpr c51
           clear c51
           replace H := Option.bind_eq_some_iff.mp H
           obtain ⟨t519, A520, H⟩ := H
           replace H : (some t519) = some r := H
           have A52 := Aside0.mk A520
           clear A520
           obtain rfl := Option.some.inj H
           obtain ⟨Ao53, co53, eo53⟩ := Kd.N_slice HO_7.out
           subst eo53
           go_wp2_with (first | (go_at_call 18; (with_reducible refine (tacticianlaw02_awake.calls  t519 _ ?side1 A52.out).mono ?_); (case side1 => exact Laid.below HLD.out (by repeat (first | (with_reducible first | exact HB.out | apply yA | apply yN | apply yD) | exact HB.out))); rintro e w54 ⟨rfl, hb⟩; have n0_ := Aside0.mk (Kd.N_below (by (with_reducible repeat (first | apply Kd.N_alloc | apply Kd.N_drewN | apply Kd.N_drew)); exact HO_5.out) hb); have n1_ := Aside0.mk (Kd.R_below (by (with_reducible repeat (first | apply Kd.R_alloc | apply Kd.R_drewN | apply Kd.R_drew)); exact HO_6.out) hb); have n2_ := Aside0.mk (Kd.N_below (by (with_reducible repeat (first | apply Kd.N_alloc | apply Kd.N_drewN | apply Kd.N_drew)); exact HO_7.out) hb); have n3_ := Aside0.mk (below_step (by repeat (first | (with_reducible first | exact HB.out | apply yA | apply yN | apply yD) | exact HB.out)) hb); clear HO_5; clear HO_6; clear HO_7; clear HB; have HO_5 := n0_; have HO_6 := n1_; have HO_7 := n2_; have HB := n3_; clear n0_ n1_ n2_ n3_; (try clear hb); (try clear hk)))
           go_ret
           exact ⟨by first | rfl | (simp [errW_none, errW_some] <;> rfl) | (simp only [← hji4]; first | rfl | (simp [errW_none, errW_some] <;> rfl)) | (simp [*, errW_none, errW_some] <;> rfl), by repeat (first | (with_reducible first | exact HB.out | apply yA | apply yN | apply yD) | exact HB.out)⟩
          ·rw [if_neg c51] at H
           have c51b0 : (t516 == x9_23) = false := beq_eq_false_iff_ne.mpr c51
           have c51b1 : (t516 != x9_23) = true := bne_iff_ne.mpr c51
           exact absurd ((Option.some.inj H).trans hr_.out) (by decide)
         ·rw [if_neg c50] at H
          have c50b0 : ((t513.length : Int) == 0) = false := beq_eq_false_iff_ne.mpr c50
          have c50b1 : ((t513.length : Int) != 0) = true := bne_iff_ne.mpr c50
          have c50b2 : ¬ (t513 = []) := fun h_ => c50 (by rw [h_]; rfl)
          exact absurd ((Option.some.inj H).trans hr_.out) (by decide)
   ·rw [if_neg c7] at H
    exact absurd H (by simp)
  ·rw [if_neg c6] at H
   exact absurd H (by simp)
 ·rw [if_neg c5] at H
  exact absurd H (by simp)
end Go.Proofs.YtmhobbdedmjmnaaGreatDoor.Q
end
section
namespace Go.Proofs.YtmhobbdedmjmnaaGreatDoor
open Go.RowKit Go.Proofs.YtmhobbdedmjmnaaGreatDoor.Q Go.Proofs.YtmhobbdedmjmnaaGreatDoorW.PrintWords Go.Proofs.YtmhobbdedmjmnaaGreatDoorW.PrintLast Go.Proofs.YtmhobbdedmjmnaaGreatDoorW.PrintMore
theorem groups_l0 (g : List (List (List V))) (hg : g.length ≤ 1000) (hr : ∀ x ∈ g, RowsOk 100 x) : ∀ (d i k : Nat), i + d = g.length → 2 * d + 200000 < k →
    lawGroups.l0 k g 0 g (i : Int) = some true := by
  intro d
  induction d with
  | zero =>
    intro i k hi hk
    obtain ⟨k, rfl⟩ : ∃ m, k = m + 2 := ⟨k - 2, by omega⟩
    rw [lawGroups.l0, if_neg (by omega), lawGroups.j3, if_neg (by decide), if_pos rfl, if_pos rfl]
    rfl
  | succ d ih =>
    intro i k hi hk
    obtain ⟨k, rfl⟩ : ∃ m, k = m + 2 := ⟨k - 2, by omega⟩
    have h1 : i < g.length := by omega
    rw [lawGroups.l0, if_pos (by omega), decide_eq_true (show (i : Int) < (g.length : Int) by omega), lawGroups.j3, if_pos rfl, if_pos (by omega), if_pos (by omega), if_pos (by omega), rdG_at g i h1, refEqual _ ((hr _ (List.getElem_mem h1)).grow (by omega)) k (by omega), Option.bind_some, if_pos rfl, wrap_small (n := (i : Int) + 1) (by omega) (by omega), show ((i : Int) + 1) = ((i + 1 : Nat) : Int) by omega]
    exact ih (i + 1) k (by omega) (by omega)
def argInts (l : List Int) : Prop := l.length * 8 ≤ 140737488351232 ∧ l.length ≤ maxLen ∧ ∀ x ∈ l, (Lit.int .i64 x).wf = true
theorem pure_RowsGroups : ∀ (l0 : (List (List V))) (l1 : (List Int)), argRows l0 → argInts l1 → ∃ k, Q.lawGroups.f k (l0) (l1) = some true := by
  intro l0 l1 h0 _
  refine ⟨900000, ?_⟩
  unfold lawGroups.f
  have ha : RowsOk 100 (cutRows 30 l0) := (argRows_ok h0).grow (by omega)
  have hm := mn_leW (l1.length : Int) 20 (by omega) (by omega)
  rw [show (30 : Int) = ((30 : Nat) : Int) from rfl, cutRows_at l0 30 900000 (by omega) (by omega)]
  simp only [Option.bind_some]
  rw [if_pos hm.1, if_pos hm.2.1, List.length_nil, List.nil_append]
  obtain ⟨p, hps⟩ : ∃ p, p = l1.take (mn (l1.length : Int) 20).toNat := ⟨_, rfl⟩
  have hn : p.length ≤ 20 := by rw [hps, List.length_take]; omega
  rw [← hps]
  clear hps hm
  rw [if_pos (by omega)]
  generalize cutRows 30 l0 = a at ha ⊢
  have hal := ha.1
  unfold rows_Groups.f
  rw [refList a [] (ha.grow (by omega)) (rowsOk_nil _) _ (by omega), smallE_nil]
  by_cases hs : smallE [a] = 0
  · rw [if_pos hs, if_pos ⟨okR_of ha (by omega), by omega⟩]
    by_cases hp : placesB a p = true
    · have hin : ∀ r ∈ a, placesIn p r = true := fun r hr => placesIn_mk fun q hq => placesB_in hp r hr q hq
      rw [if_pos hp, Option.bind_some, Option.bind_some, if_pos hs, refPlaces a p ha.1 (by omega) _ (by omega), Option.bind_some, hp, Bool.not_true, hs, lawGroups.j0, if_neg (by decide), lawGroups.j1, if_pos rfl, refGroups a p ha (by omega) hin _ (by omega), Option.bind_some]
      have hgl : ((headsR p a).map (groupR p a)).length ≤ 1000 := by
        rw [List.length_map]
        exact Nat.le_trans (oneR_len _) (by rw [List.length_map]; omega)
      exact groups_l0 _ hgl (fun x hx => by
        obtain ⟨h, _, rfl⟩ := List.mem_map.1 hx
        exact groupR_ok ha) _ 0 _ (Nat.zero_add _) (by omega)
    · rw [if_neg hp, Option.bind_some, Option.bind_some, if_pos hs, refPlaces a p ha.1 (by omega) _ (by omega), Option.bind_some, Bool.eq_false_iff.2 hp, Bool.not_false, lawGroups.j0, if_pos rfl, lawGroups.j1, if_neg (by decide)]
      simp [tacticianlaw02_awake.f]
  · rw [if_neg hs, Option.bind_some, Option.bind_some, if_neg hs, lawGroups.j0, if_neg (by decide), lawGroups.j1, if_neg hs]
    simp [tacticianlaw02_awake.f]
end Go.Proofs.YtmhobbdedmjmnaaGreatDoor
end
section
namespace Go.Proofs.YtmhobbdedmjmnaaGreatDoor
open Go.RowKit Go.Proofs.YtmhobbdedmjmnaaGreatDoor.Q Go.Proofs.YtmhobbdedmjmnaaGreatDoorW.PrintWords Go.Proofs.YtmhobbdedmjmnaaGreatDoorW.PrintLast Go.Proofs.YtmhobbdedmjmnaaGreatDoorW.PrintMore
variable {α : Type}
def Opens (P : Program) (t : TypeId) (d : Kd α) (ok : α → Prop) : Prop :=
  ∀ (H : Type) (enc : TypeId × Value → H) (W : World) (base : Nat) (spare : Nat → Bool) (held : Bool) (fuel : Nat) (cs : List Value) (x : DataW H × List MemPlace),
    DataW.trod enc P W base spare held fuel t cs = some x → ∃ a, d.K W a cs ∧ (((DataW.weights P t x.1).all (· ≤ reachBytes)) = true → ok a)
theorem Opens.int {P : Program} {t : TypeId} {k : IntKind} (ht : P.underlying t = some (.int k)) : Opens P t (Kd.int k) (fun a => (Lit.int k a).wf = true) := by
  intro H enc W base spare held fuel cs x h
  obtain ⟨a, e0, rfl, wa⟩ := DataW.trod_int ht h
  exact ⟨a, e0, fun _ => wa⟩
theorem Opens.bool {P : Program} {t : TypeId} (ht : P.underlying t = some .bool) : Opens P t Kd.bool (fun _ => True) := by
  intro H enc W base spare held fuel cs x h
  obtain ⟨a, e0, rfl⟩ := DataW.trod_bool ht h
  exact ⟨a, e0, fun _ => trivial⟩
theorem Opens.string {P : Program} {t : TypeId} (ht : P.underlying t = some .string) : Opens P t Kd.string (fun a => a.size ≤ 140737488351232) := by
  intro H enc W base spare held fuel cs x h
  obtain ⟨a, e0, rfl, ws⟩ := DataW.trod_string ht h
  refine ⟨a, e0, fun hw => ?_⟩
  simp only [DataW.weights, List.all_cons, List.all_nil, Bool.and_true, decide_eq_true_eq] at hw
  have e : a.data.toList.length = a.size := Array.length_toList
  unfold reachBytes at hw
  omega
theorem mem_weightsAll {H : Type} (P : Program) (e : TypeId) : ∀ (l : List (DataW H)) (d : DataW H), d ∈ l → ∀ n, n ∈ d.weights P e → n ∈ DataW.weightsAll P e l := by
  intro l
  induction l with
  | nil => intro d hd; cases hd
  | cons z r ih =>
    intro d hd n hn
    rw [DataW.weightsAll, List.mem_append]
    rcases List.mem_cons.1 hd with rfl | hd
    · exact .inl hn
    · exact .inr (ih d hd n hn)
theorem choose_list {β : Type} (n : Nat) (p : Nat → β → Prop) (h : ∀ i, i < n → ∃ b, p i b) : ∃ l : List β, l.length = n ∧ ∀ i b, l[i]? = some b → p i b := by
  induction n with
  | zero => exact ⟨[], rfl, fun i b hb => by simp at hb⟩
  | succ n ih =>
    obtain ⟨l, hl, hp⟩ := ih (fun i hi => h i (by omega))
    obtain ⟨b, hb⟩ := h n (by omega)
    refine ⟨l ++ [b], by simp [hl], fun i b' hb' => ?_⟩
    by_cases hi : i < l.length
    · rw [List.getElem?_append_left hi] at hb'; exact hp i b' hb'
    · rw [List.getElem?_append_right (by omega)] at hb'
      have hi2 : i = n := by
        rcases Nat.lt_or_ge (i - l.length) 1 with h1 | h1
        · omega
        · rw [List.getElem?_eq_none (by simpa using h1)] at hb'; cases hb'
      subst hi2
      rw [show i - l.length = 0 by omega] at hb'
      simp at hb'
      rw [← hb']; exact hb
theorem Opens.slice {P : Program} {t e : TypeId} {d : Kd α} {ok : α → Prop} {n : Nat} (ht : P.underlying t = some (.slice e)) (hc : P.cellsOf e = d.sz) (hb : P.bytesOf e = n) (hd : Opens P e d ok) :
    Opens P t (Kd.slice e d) (fun l => l.length * n ≤ 140737488351232 ∧ l.length ≤ maxLen ∧ ∀ a ∈ l, ok a) := by
  intro H enc W base spare held fuel cs x h
  rcases Go.Deep.open_slice ht h with ⟨rfl, rfl⟩ | ⟨a, len, cap, m, n', D, Pl, rfl, _, hl, hm, hmm, rfl, hx⟩
  · exact ⟨[], ⟨none, 0, rfl, Nat.le_refl _, rfl, by simp, fun h => absurd h (Nat.lt_irrefl _)⟩, fun _ => ⟨by simp, by simp, fun a ha => by cases ha⟩⟩
  · have hlm : len ≤ m := by rw [hmm]; split <;> omega
    obtain ⟨l, hll, hp⟩ := choose_list len (fun i z => ∃ cs', W.cells? base (a.add (i * P.cellsOf e)) (P.cellsOf e) = some cs' ∧ d.K W z cs' ∧ (((DataW.weights P e (D i)).all (· ≤ reachBytes)) = true → ok z)) (fun i hi => by
      obtain ⟨cs', h1, h2⟩ := hx i (by omega)
      obtain ⟨z, hz, hok⟩ := hd H enc W base spare held n' cs' _ h2
      exact ⟨z, cs', h1, hz, hok⟩)
    subst hll
    unfold maxLen at hm
    refine ⟨l, ⟨some a, cap, rfl, hl, rfl, by omega, fun _ => ⟨a, rfl, fun j p hj => ?_⟩⟩, fun hw => ?_⟩
    · obtain ⟨cs', h1, h2, _⟩ := hp j p hj
      rw [hc] at h1
      obtain ⟨_, hlen, hcell⟩ := World.cells?_some h1
      refine ⟨cs', hlen, h2, fun i u hu => ?_⟩
      have hi : i < d.sz := by rw [← hlen]; exact (List.getElem?_eq_some_iff.1 hu).1
      have := (hcell i hi).trans hu
      rw [Addr.add_add] at this
      exact this
    · rw [DataW.weights, ht] at hw
      simp only [List.all_cons, List.all_append, Bool.and_eq_true, decide_eq_true_eq] at hw
      obtain ⟨h1, h2, _⟩ := hw
      rw [hb] at h1
      refine ⟨?_, by unfold maxLen; omega, fun z hz => ?_⟩
      · have h3 : l.length * n ≤ (((List.range l.length).map D).length + ((List.range (m - l.length)).map fun j => D (l.length + j)).length) * n := Nat.mul_le_mul_right _ (by simp)
        unfold reachBytes at h1
        omega
      · obtain ⟨i, hi, rfl⟩ := List.getElem_of_mem hz
        obtain ⟨_, _, _, hok⟩ := hp i _ (List.getElem?_eq_getElem hi)
        refine hok ?_
        rw [List.all_eq_true] at h2 ⊢
        intro q hq
        exact h2 q (mem_weightsAll P e _ (D i) (List.mem_map.2 ⟨i, List.mem_range.2 hi, rfl⟩) q hq)
set_option maxRecDepth 100000 in
theorem Opens.value : Opens Tryz.prog 61 k61 (fun v => (Lit.int .i64 v.f0).wf = true ∧ (Lit.int .i64 v.f1).wf = true ∧ v.f2.size ≤ 140737488351232) := by
  intro H enc W base spare held fuel cs x h
  obtain ⟨y0, y1, y2, n, rfl, hl, h0, h1, h2⟩ := Go.Deep.trod_struct3 Tryz.underlying61 h
  have hc : Tryz.prog.cellsOf 61 = 3 := by kernel_rfl
  have c0 : Tryz.prog.cellsOf 59 = 1 := by kernel_rfl
  have c1 : Tryz.prog.cellsOf 2 = 1 := by kernel_rfl
  have c2 : Tryz.prog.cellsOf 9 = 1 := by kernel_rfl
  rw [hc] at hl
  simp only [c0, c1, c2] at h0 h1 h2
  obtain ⟨a, e0, o0⟩ := Opens.int Tryz.underlying59 H enc W base spare held _ _ _ h0
  obtain ⟨b, e1, o1⟩ := Opens.int Tryz.underlying2 H enc W base spare held _ _ _ h1
  obtain ⟨c, e2, o2⟩ := Opens.string Tryz.underlying9 H enc W base spare held _ _ _ h2
  match cs, hl with
  | [z0, z1, z2], _ =>
    have q0 : [z0] = [Value.int .i64 a] := e0
    have q1 : [z1] = [Value.int .i64 b] := e1
    have q2 : [z2] = [Value.string c] := e2
    simp only [List.cons.injEq, and_true] at q0 q1 q2
    subst q0 q1 q2
    refine ⟨⟨a, b, c⟩, k61_mk W ⟨a, b, c⟩, fun hw => ?_⟩
    rw [DataW.weights, Tryz.underlying61] at hw
    simp only [List.map_cons, List.map_nil, DataW.weightsEach, List.all_append, List.append_nil, Bool.and_eq_true] at hw
    exact ⟨o0 hw.1, o1 hw.2.1, o2 hw.2.2⟩
end Go.Proofs.YtmhobbdedmjmnaaGreatDoor
end
section
namespace Go.Proofs.YtmhobbdedmjmnaaGreatDoor
open Go.RowKit Go.Proofs.YtmhobbdedmjmnaaGreatDoor.Q Go.Proofs.YtmhobbdedmjmnaaGreatDoorW.PrintWords Go.Proofs.YtmhobbdedmjmnaaGreatDoorW.PrintLast Go.Proofs.YtmhobbdedmjmnaaGreatDoorW.PrintMore
set_option maxRecDepth 100000 in
theorem Opens.key : Opens Tryz.prog 36 k36 (fun v => (Lit.int .i64 v.f0).wf = true) := by
  intro H enc W base spare held fuel cs x h
  obtain ⟨y0, y1, n, rfl, hl, h0, h1⟩ := Go.ChangeShapes.trod_struct2 Tryz.underlying36 h
  have hc : Tryz.prog.cellsOf 36 = 2 := by kernel_rfl
  have c0 : Tryz.prog.cellsOf 3 = 1 := by kernel_rfl
  have c1 : Tryz.prog.cellsOf 4 = 1 := by kernel_rfl
  rw [hc] at hl
  simp only [c0, c1] at h0 h1
  obtain ⟨a, e0, o0⟩ := Opens.int Tryz.underlying3 H enc W base spare held _ _ _ h0
  obtain ⟨b, e1, o1⟩ := Opens.bool Tryz.underlying4 H enc W base spare held _ _ _ h1
  match cs, hl with
  | [z0, z1], _ =>
    have q0 : [z0] = [Value.int .i64 a] := e0
    have q1 : [z1] = [Value.bool b] := e1
    simp only [List.cons.injEq, and_true] at q0 q1
    subst q0 q1
    refine ⟨⟨a, b⟩, k36_mk W ⟨a, b⟩, fun hw => ?_⟩
    rw [DataW.weights, Tryz.underlying36] at hw
    simp only [List.map_cons, List.map_nil, DataW.weightsEach, List.all_append, List.append_nil, Bool.and_eq_true] at hw
    exact o0 hw.1
set_option maxRecDepth 100000 in
theorem Opens.col : Opens Tryz.prog 88 k88 (fun v => (Lit.int .i64 v.f0).wf = true) := by
  intro H enc W base spare held fuel cs x h
  obtain ⟨y0, y1, n, rfl, hl, h0, h1⟩ := Go.ChangeShapes.trod_struct2 Tryz.underlying88 h
  have hc : Tryz.prog.cellsOf 88 = 2 := by kernel_rfl
  have c0 : Tryz.prog.cellsOf 59 = 1 := by kernel_rfl
  have c1 : Tryz.prog.cellsOf 4 = 1 := by kernel_rfl
  rw [hc] at hl
  simp only [c0, c1] at h0 h1
  obtain ⟨a, e0, o0⟩ := Opens.int Tryz.underlying59 H enc W base spare held _ _ _ h0
  obtain ⟨b, e1, o1⟩ := Opens.bool Tryz.underlying4 H enc W base spare held _ _ _ h1
  match cs, hl with
  | [z0, z1], _ =>
    have q0 : [z0] = [Value.int .i64 a] := e0
    have q1 : [z1] = [Value.bool b] := e1
    simp only [List.cons.injEq, and_true] at q0 q1
    subst q0 q1
    refine ⟨⟨a, b⟩, k88_mk W ⟨a, b⟩, fun hw => ?_⟩
    rw [DataW.weights, Tryz.underlying88] at hw
    simp only [List.map_cons, List.map_nil, DataW.weightsEach, List.all_append, List.append_nil, Bool.and_eq_true] at hw
    exact o0 hw.1
end Go.Proofs.YtmhobbdedmjmnaaGreatDoor
end
section
namespace Go.Proofs.YtmhobbdedmjmnaaGreatDoor
open Go.RowKit
variable {H : Type} {enc : TypeId × Value → H}
theorem returnsInHanded_both {a : Assume} {C : Checked} {os : Os} {f : FuncId} {fn : Func} {s : ChangeSpec} {conds : List PathCond} {apart fresh handsOn again : Bool} {X : World → Array Value → Prop}
    (hX : ∀ (w w' : World) (args : Array Value), w.heap = w'.heap → X w args → X w' args)
    (own : ownKnob C.prog.godebug = none) (started : os.Started) (noInit : C.prog.inits.idxOf? f = none) (hfn : C.prog.funcs[f]? = some fn)
    (witness : ∃ (w : World) (tape : Tape) (i : Input), w.os = os ∧ (w.forCall tape i).Shaped C.prog ∧ i.vars = [] ∧ Input.okWide C.prog (w.forCall tape i) .any w.heap.size f i ∧
      ((s.pre enc C.prog fn conds apart (w.forCall tape i).memory i.args ∧ X (w.forCall tape i).memory i.args) ∧ sizedMet enc C.prog fn (OpenSpec.ofChange s) apart (w.forCall tape i).memory i.args) ∧ a.holds C.prog (lone (Frame.enter C.prog f i.args .normal) [] (w.forCall tape i)))
    (contract : ∀ (W : World) (base : Nat) (args : Array Value) (ds gs : List (DataW H)) (before : List MemPlace),
      (∀ (j : Nat) t v, fn.params[j]? = some t → args[j]? = some v → Value.okWide C.prog W .any base t v) →
      DataW.Whole enc C.prog fn.params.toList s.vars apart W args.toList ds gs before →
      conds.all (PathCond.test C.prog ⟨fn.params.toList, ds, s.plain.varTypes C.prog, gs⟩) = true →
      (DataW.weightsEach C.prog (fn.params.toList ++ s.plain.varTypes C.prog) (ds ++ gs)).all (· ≤ reachBytes) = true → X W args → W.ShapedOpen C.prog →
      a.holds C.prog (lone (Frame.enter C.prog f args .normal) [] W) →
      Calls C.prog f args W fun e W' => ∃ v, e = .returned v ∧ s.post enc C.prog fn apart fresh handsOn again W args v W') :
    ReturnsInHanded a C os f .any (fun w args => (s.pre enc C.prog fn conds apart w args ∧ X w args) ∧ sizedMet enc C.prog fn (OpenSpec.ofChange s) apart w args) (s.post enc C.prog fn apart fresh handsOn again) := by
  refine returnsInHanded_of_calls own started noInit witness ?_
  intro w tape i _ hsh _ hok hpre hholds
  obtain ⟨_, _, _, fn', hfn', _, _, _, _, hval⟩ := hok
  have e : fn' = fn := Option.some.inj (hfn'.symm.trans hfn)
  subst e
  obtain ⟨⟨⟨ds, gs, before, hw, hc⟩, hx⟩, hz⟩ := hpre
  have hw' := DataW.Whole.of_heap (w' := w.forCall tape i) (by rfl) hw
  refine (contract (w.forCall tape i) w.heap.size i.args ds gs before hval hw' hc (hz.weights hw) (hX _ _ _ (by rfl) hx) hsh hholds).mono fun e W' ⟨v, he, hp⟩ => ?_
  subst he
  exact ChangeSpec.post_blind hp
theorem own : ownKnob Tryz.prog.godebug = none := by kernel_rfl
theorem laidOut : laidOutB Tryz.prog = true := by kernel_rfl
noncomputable def laidWorld (os : Os) : World :=
  let w0 := World.doorLaid Tryz.prog 600 os
  { w0 with heap := w0.heap.modify 2 fun
      | .cells _ t frozen => .cells (Lib.firstTab.map fun z => Value.int .u8 z).toArray t frozen
      | o => o }
theorem laid_plain {W : World} (h : laidMetH Tryz.prog Rows.rowsGroupsRow.laid W) : laidMet Tryz.prog Rows.rowsGroupsRow.laid W := by
  have e : (Rows.rowsGroupsRow.laid.filter fun x => x.2.handleName?.isSome) = [] := by kernel_rfl
  unfold laidMetH at h
  rw [e] at h
  exact h
theorem laid_met (os : Os) (args : Array Value) : laidMetH Tryz.prog Rows.rowsGroupsRow.laid ((laidWorld os).forCall (fun _ _ => 0) ⟨#[], args, []⟩).memory := by
  have e : (Rows.rowsGroupsRow.laid.filter fun x => x.2.handleName?.isSome) = [] := by kernel_rfl
  unfold laidMetH
  rw [e]
  exact laidMet_of_run' 8 (by kernel_rfl) (by kernel_rfl)
theorem laid_of {W : World} (h0 : laidMetH Tryz.prog Rows.rowsGroupsRow.laid W) (hsh : W.ShapedOpen Tryz.prog) : Laid W := by
  have h := laid_plain h0
  have hp : Lib.TabIs Tryz.prog W "internal/strconv.uint64pow10" .u64 Lib.pow10Tab := by
    have z := h.tail.tail
    have e : Rows.laid_internal_strconv_uint64pow10 (H := Unit) = Lib.tabData .u64 Lib.pow10Tab := by kernel_rfl
    rw [e] at z
    exact Lib.tabIs_of_head (g := 0) (t := 198) (e := 153) (n := 20) (by kernel_rfl) (by kernel_rfl) (by kernel_rfl) (by kernel_rfl) (by kernel_rfl) (by kernel_rfl) z
  obtain ⟨m, hm⟩ := cell_of_shapedOpen_int (g := 1) (t := 3) (k := .i64) (zero := #[.int .i64 0]) hsh (of_decide_eq_true (by kernel_rfl)) (by kernel_rfl) rfl (by kernel_rfl) (by kernel_rfl) (by kernel_rfl)
  exact ⟨hp, ⟨m, hm⟩⟩
end Go.Proofs.YtmhobbdedmjmnaaGreatDoor
end
section
namespace Go.Proofs.YtmhobbdedmjmnaaGreatDoor.rowsGroups
open Go.ChangeShapes Go.WideShapes Go.ChangeAt Go.RowKit
open Go.ChangeMaps (open_string shut_string)
open Go.Proofs.YtmhobbdedmjmnaaGreatDoor.Q Go.Proofs.YtmhobbdedmjmnaaGreatDoorW.PrintWords
set_option linter.unusedVariables false
set_option maxRecDepth 100000 in
set_option maxHeartbeats 1000000 in
theorem lifted (os : Os) (started : os.Started) (H : Type) (enc : TypeId × Value → H) :
    ReturnsInHanded {} Tryz.checked os 7 .any (fun w args => (Rows.rowsGroupsSpec.pre enc Tryz.prog Tryz.f7 [] false w args ∧ laidMetH Tryz.prog Rows.rowsGroupsRow.laid w) ∧ sizedMet enc Tryz.prog Tryz.f7 (OpenSpec.ofChange Rows.rowsGroupsSpec) false w args) (Rows.rowsGroupsSpec.post enc Tryz.prog Tryz.f7 false true false false) := by
  refine returnsInHanded_both (C := Tryz.checked) (X := fun w _ => laidMetH Tryz.prog Rows.rowsGroupsRow.laid w) (fun _ _ _ hh h => h.of_heap hh) own started (by kernel_rfl) Tryz.func7
    (ChangeSpec.witness_shaped (enc := enc) (C := Tryz.checked) (os := os) (X := fun w _ => laidMetH Tryz.prog Rows.rowsGroupsRow.laid w) false (laidWorld os) #[.slice none 0 0, .slice none 0 0] 8 rfl (World.shaped_of_RefB (by kernel_rfl) (by kernel_rfl)) (by kernel_rfl) (by kernel_rfl) (by kernel_rfl) (laid_met os _)) ?_
  intro W base args ds gs before hval0 hW _ hsz0 hL hsh _
  have hsz : (DataW.weightsEach Tryz.prog (Tryz.f7.params.toList ++ Rows.rowsGroupsSpec.plain.varTypes Tryz.prog) (ds ++ gs)).all (· ≤ reachBytes) = true := hsz0
  have hW' := hW
  obtain ⟨p, q, hA0, hV, rfl, hfz, hnd⟩ := hW
  have hA : DataW.TrodAll enc Tryz.prog W 0 (fun _ => true) true Tryz.f7.params.toList args.toList ds p := hA0
  rw [Tryz.params7] at hA hsz
  obtain ⟨v0, vs0, d0, ds0, p0, q0, hargs, rfl, rfl, h0, r0⟩ := trodAll_cons hA
  obtain ⟨v1, vs1, d1, ds1, p1, q1, rfl, rfl, rfl, h1, r1⟩ := trodAll_cons r0
  obtain ⟨rfl, rfl, rfl⟩ := trodAll_nil r1
  obtain rfl : args = #[v0, v1] := by cases args; simp_all
  obtain ⟨rfl, rfl⟩ := trodVars_none hV
  have hval : ∀ (j : Nat) t v, Tryz.f7.params[j]? = some t → (#[v0, v1] : Array Value)[j]? = some v → Value.okWide Tryz.prog W .any base t v := hval0
  rw [Tryz.params7] at hval
  have k0 := h0
  have lt0 : ∀ x ∈ p0, x.block < W.heap.size := by obtain ⟨m, hm⟩ := k0; exact DataW.trod_lt m _ _ _ hm
  obtain ⟨aa0, len0, cap0, rfl⟩ := okWide_slice Tryz.underlying22 (hval 0 22 v0 rfl rfl)
  obtain ⟨fuel0, hf0⟩ := h0
  obtain ⟨l0, ⟨A0, c0, ev0, hc0, hr0⟩, o0⟩ := (Opens.slice Tryz.underlying22 (by kernel_rfl) (n := 24) (by kernel_rfl) (Opens.slice Tryz.underlying40 (by kernel_rfl) (n := 32) (by kernel_rfl) Opens.value)) H enc W 0 _ _ fuel0 _ _ hf0
  obtain ⟨rfl, rfl, rfl⟩ : aa0 = A0 ∧ len0 = l0.length ∧ cap0 = c0 := by simpa [Value.cells] using ev0
  have y0 := o0 (List.all_eq_true.2 fun z hz => (List.all_eq_true.1 hsz) z (DataW.weights_mem_each (j := 0) (t := 22) rfl rfl z hz))
  have k1 := h1
  have lt1 : ∀ x ∈ p1, x.block < W.heap.size := by obtain ⟨m, hm⟩ := k1; exact DataW.trod_lt m _ _ _ hm
  obtain ⟨aa1, len1, cap1, rfl⟩ := okWide_slice Tryz.underlying34 (hval 1 34 v1 rfl rfl)
  obtain ⟨fuel1, hf1⟩ := h1
  obtain ⟨l1, ⟨A1, c1, ev1, hc1, hr1⟩, o1⟩ := (Opens.slice Tryz.underlying34 (by kernel_rfl) (n := 8) (by kernel_rfl) (Opens.int Tryz.underlying3)) H enc W 0 _ _ fuel1 _ _ hf1
  obtain ⟨rfl, rfl, rfl⟩ : aa1 = A1 ∧ len1 = l1.length ∧ cap1 = c1 := by simpa [Value.cells] using ev1
  have y1 := o1 (List.all_eq_true.2 fun z hz => (List.all_eq_true.1 hsz) z (DataW.weights_mem_each (j := 1) (t := 34) rfl rfl z hz))
  obtain ⟨k, hk⟩ := pure_RowsGroups l0 l1 y0 y1
  refine (Q.lawGroups.calls k _ _ l0 _ _ l1 true W hr0 hc0 hr1 hc1 (laid_of hL hsh) ⟨rfl⟩ hk).mono fun e W' ⟨he, bel⟩ => ?_
  subst he
  exact ⟨_, rfl, _, _, _, [], _, [], hW', trodAll_mk1 (shut_bool Tryz.underlying4 _), (trodAll_cons_mk (Below.trod laidOut (by kernel_rfl) (of_decide_eq_true (by kernel_rfl)) k0 bel lt0) (trodAll_cons_mk (Below.trod laidOut (by kernel_rfl) (of_decide_eq_true (by kernel_rfl)) k1 bel lt1) trodAll_mk0)), rfl, bel.frame _, fun h => by cases h⟩
theorem over : Rows.rowsGroupsRow.holds Tryz.pinned (OpenSpec.ofChange Rows.rowsGroupsSpec) :=
  OpenClaim.holds_of_wide 7 Tryz.f7 rfl rfl rfl rfl rfl rfl rfl ⟨rfl, rfl, rfl, rfl, rfl⟩ rfl rfl rfl rfl rfl (by kernel_rfl) Tryz.func7 (by kernel_rfl)
    (of_decide_eq_true (by kernel_rfl)) (by unfold Func.isWrapper; first | (rw [if_pos (by decide +kernel)]; kernel_rfl) | (rw [if_neg (by decide +kernel)]; exact ⟨rfl, rfl⟩))
    (fun os started H enc _ => lifted os started H enc)
theorem card : Rows.RowsGroupsCardSaid :=
  Claim7.holds_tied_plain_at .later [] [.data, .data, .data, .data, .pinned] true (true, "3fbdbdc6005f940d9b2637db3a20e2190d23d3aac91fe9574c23040e4f9c7ab4") true
    over (fun _ h => by cases h) (by kernel_rfl) (fun _ h => by cases h) rowsGroups_row_tie rfl ⟨rfl, rfl⟩ (by kernel_rfl) rfl
    (fun f fn hf hfn => by
      obtain rfl : f = 7 := Option.some.inj ((show Tryz.prog.funcNamed "tactician/tacticianlaw02.RowsGroups" = some 7 by kernel_rfl).symm.trans hf) |>.symm
      obtain rfl : fn = Tryz.f7 := (Option.some.inj (Tryz.func7.symm.trans hfn)).symm
      refine ⟨by kernel_rfl, fun j t ht => ?_⟩
      rw [Tryz.params7] at ht
      have hm := Array.mem_of_getElem? ht
      simp only [List.mem_toArray, List.mem_cons, List.mem_nil_iff, or_false] at hm
      rcases hm with rfl | rfl
      · exact (show Tryz.prog.wantsStandIn 22 = false by kernel_rfl)
      · exact (show Tryz.prog.wantsStandIn 34 = false by kernel_rfl))
    (by kernel_rfl)
end Go.Proofs.YtmhobbdedmjmnaaGreatDoor.rowsGroups
namespace Go.Proofs.YtmhobbdedmjmnaaGreatDoor
theorem rowsGroups_card : Rows.RowsGroupsCardSaid := rowsGroups.card
end Go.Proofs.YtmhobbdedmjmnaaGreatDoor
end
