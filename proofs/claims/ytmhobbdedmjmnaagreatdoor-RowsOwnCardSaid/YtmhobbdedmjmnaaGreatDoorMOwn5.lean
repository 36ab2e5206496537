/- Lemmas for the claim: contracts of functions and facts about what they compute, part 6 (texts put together, and cut down to what is used, by a program of ours). -/
import Derived.RangeFuncNested
import Derived.RangeFuncBound
import Derived.RangeFuncCalls
import Derived.RangeFuncLeaves
import Derived.RangeFuncBox
import Derived.Shelf.Abstract
import Derived.OwnWalkIn
import Derived.TacticsInMore
import Derived.LoopNIn
import Derived.LoopIn
import Derived.Maps.AppendAt
import Derived.Deep.MidRow
import Derived.Laws.MakeOwn
import Derived.Test.YtmhobbdedmjmnaaGreatDoorMOwn4
section
/- Each function reached is shown to return what the plain function beside it computes, wherever that is defined (written by a program of ours for this seat). -/
namespace Go.Proofs.YtmhobbdedmjmnaaGreatDoor.Q
open Go.RowKit Go.Proofs.YtmhobbdedmjmnaaGreatDoorW.PrintWords Go.Proofs.YtmhobbdedmjmnaaGreatDoorW.PrintLast Go.Proofs.YtmhobbdedmjmnaaGreatDoorW.PrintMore
attribute [local go_sem] max2_int min2_int max_two min_two max_three min_three max_four min_four   -- for this text's walks alone
set_option linter.unusedVariables false
set_option linter.unusedSimpArgs false
mutual
def tacticianref02_TameRows.l0 : Nat → List (S88) → List (List (S61)) → Int → List (List (S61)) → Int → Option ((List (List (S61))))
  | 0, _, _, _, _, _ => none
  | k + 1, x0, x1, x2, x7, x8 => if x8 < (x1.length : Int) then (tacticianref02_TameRows.j1 k x0 x1 x2 x7 x8 (decide (x8 < x2))) else (tacticianref02_TameRows.j1 k x0 x1 x2 x7 x8 false)
def tacticianref02_TameRows.j1 : Nat → List (S88) → List (List (S61)) → Int → List (List (S61)) → Int → Bool → Option ((List (List (S61))))
  | 0, _, _, _, _, _, _ => none
  | k + 1, x0, x1, x2, x7, x8, x20 => if x20 = true then (tacticianref02_TameRows.l1 k x0 x1 x2 x7 x8 ([] : List (S61)) 0) else (some x7)
def tacticianref02_TameRows.l1 : Nat → List (S88) → List (List (S61)) → Int → List (List (S61)) → Int → List (S61) → Int → Option ((List (List (S61))))
  | 0, _, _, _, _, _, _, _ => none
  | k + 1, x0, x1, x2, x7, x8, x9, x10 => if x10 < (x0.length : Int) then (if 0 ≤ x8 then (if x8 < (x1.length : Int) then (if ((rd_L3 x1 x8).length : Int) > 0 then (if ((rd_L3 x1 x8).length : Int) = 0 then (none) else (if 0 ≤ (Int.tmod x10 ((rd_L3 x1 x8).length : Int)) then (if (Int.tmod x10 ((rd_L3 x1 x8).length : Int)) < ((rd_L3 x1 x8).length : Int) then (if 0 ≤ x10 then ((tacticianref01_TameAs.f k ((rd_T61 (rd_L3 x1 x8) (Int.tmod x10 ((rd_L3 x1 x8).length : Int))).f0) (wrap64 (((rd_T61 (rd_L3 x1 x8) (Int.tmod x10 ((rd_L3 x1 x8).length : Int))).f1) + (wrap64 (Int.tdiv x10 ((rd_L3 x1 x8).length : Int))))) ((rd_T61 (rd_L3 x1 x8) (Int.tmod x10 ((rd_L3 x1 x8).length : Int))).f2) ((rd_T88 x0 x10).f0) ((rd_T88 x0 x10).f1)).bind fun bt558 => (if x9.length < 4398046511104 then (tacticianref02_TameRows.l1 k x0 x1 x2 x7 x8 (x9 ++ [(⟨bt558.1, bt558.2.1, bt558.2.2⟩ : S61)]) (wrap64 (x10 + 1))) else (none))) else (none)) else (none)) else (none))) else (if 0 ≤ x10 then ((tacticianref01_TameAs.f k 0 0 (⟨#[]⟩ : ByteArray) ((rd_T88 x0 x10).f0) ((rd_T88 x0 x10).f1)).bind fun bt565 => (if x9.length < 4398046511104 then (tacticianref02_TameRows.l1 k x0 x1 x2 x7 x8 (x9 ++ [(⟨bt565.1, bt565.2.1, bt565.2.2⟩ : S61)]) (wrap64 (x10 + 1))) else (none))) else (none))) else (none)) else (none)) else (if x7.length < 5864062014805 then (tacticianref02_TameRows.l0 k x0 x1 x2 (x7 ++ [x9]) (wrap64 (x8 + 1))) else (none))
end
def tacticianref02_TameRows.f (k : Nat) (l0 : List (S88)) (l1 : List (List (S61))) (a2 : Int) : Option ((List (List (S61)))) := tacticianref02_TameRows.l0 k l0 l1 a2 ([] : List (List (S61))) 0
def tacticianref02_TameRows.T11 : Bool × List (List Nat × List Nat) := (true, [([], []), ([], []), ([0, 1], [0, 1]), ([2], [2]), ([], []), ([], []), ([], []), ([5, 6], [5, 6]), ([7], [7]), ([8], [8]), ([4, 9], [4, 9]), ([3, 10], [3, 10]), ([11], [11]), ([12, 0, 1, 2, 3, 4, 5, 6, 7, 8, 9, 10, 11, 12], [12])])
def tacticianref02_TameRows.B11 : List Nat := [0, 0, 3, 7, 0, 0, 0, 96, 224, 480, 1008, 2047, 4095, 8191]
theorem tacticianref02_TameRows.tab11 : rtab .any (opsOf Tryz.f73 11) = tacticianref02_TameRows.T11 := by kernel_rfl
theorem tacticianref02_TameRows.bits11 : waitsOk tacticianref02_TameRows.T11.2 tacticianref02_TameRows.B11 = true := by kernel_rfl
def tacticianref02_TameRows.T12 : Bool × List (List Nat × List Nat) := (true, [([], []), ([0], [0]), ([], []), ([], []), ([], []), ([3, 4], [3, 4]), ([5], [5]), ([6], [6]), ([2, 7], [2, 7]), ([1, 8], [1, 8]), ([0, 1, 2, 3, 4, 5, 6, 7, 8, 9], []), ([10, 9, 0, 1, 2, 3, 4, 5, 6, 7, 8, 9], [9, 10])])
def tacticianref02_TameRows.B12 : List Nat := [0, 1, 0, 0, 0, 24, 56, 120, 252, 511, 1023, 2047]
theorem tacticianref02_TameRows.tab12 : rtab .any (opsOf Tryz.f73 12) = tacticianref02_TameRows.T12 := by kernel_rfl
theorem tacticianref02_TameRows.bits12 : waitsOk tacticianref02_TameRows.T12.2 tacticianref02_TameRows.B12 = true := by kernel_rfl
def tacticianref02_TameRows.T13 : Bool × List (List Nat × List Nat) := (true, [([], []), ([], []), ([], []), ([], []), ([2, 3], [2, 3]), ([4], [4]), ([1, 5], [1, 5]), ([6], [6]), ([0, 7, 6], [0, 7]), ([8, 8, 0, 1, 2, 3, 4, 5, 6, 7, 8], [0, 8])])
def tacticianref02_TameRows.B13 : List Nat := [0, 0, 0, 0, 12, 28, 62, 126, 255, 511]
theorem tacticianref02_TameRows.tab13 : rtab .any (opsOf Tryz.f73 13) = tacticianref02_TameRows.T13 := by kernel_rfl
theorem tacticianref02_TameRows.bits13 : waitsOk tacticianref02_TameRows.T13.2 tacticianref02_TameRows.B13 = true := by kernel_rfl
set_option maxHeartbeats 8000000 in
set_option maxRecDepth 100000 in
theorem tacticianref02_TameRows.calls (k : Nat) (A0 : Option Addr) (c0 : Nat) (l0 : List (S88)) (A1 : Option Addr) (c1 : Nat) (l1 : List (List (S61))) (a2 : Int) (r : List (List (S61))) (w : World) (hr0 : Kd.C k88 w A0 l0.length l0) (hc0 : l0.length ≤ c0) (hr1 : Kd.C (Kd.slice 61 k61) w A1 l1.length l1) (hc1 : l1.length ≤ c1) (h : tacticianref02_TameRows.f k l0 l1 a2 = some r) :
  Calls Tryz.prog 73 #[.slice A0 l0.length c0, .slice A1 l1.length c1, .int .i64 a2] w fun e w' => ∃ v0_ : Value, e = .returned (v0_) ∧ Kd.S (Kd.slice 61 k61) 40 w' w.heap.size (fun _ => True) v0_ r ∧ Below w.heap.size w w' := by
 have hu61 := Tryz.underlying61
 have hu88 := Tryz.underlying88
 have HR0 := Aside0.mk hr0
 have HC0 := Aside0.mk hc0
 clear hr0 hc0
 have HR1 := Aside0.mk hr1
 have HC1 := Aside0.mk hc1
 clear hr1 hc1
 have HB := Aside0.mk (Below.refl w.heap.size w)
 have H : (tacticianref02_TameRows.l0 k l0 l1 a2 ([] : List (List (S61))) 0) = some r := h
 clear h
 have H' := Aside0.mk H
 clear H
 go_enter Tryz.func73, Tryz.ntmps73
 go_wp2
 go_loopg [7, 8] k (fun kq v7 v8 w' => ∃ (x7_1 : List (List (S61))) (x8_1 : Int), v8 = .int .i64 x8_1 ∧ Aside0 (tacticianref02_TameRows.l0 kq l0 l1 a2 x7_1 x8_1 = some r) ∧ Aside0 (kq ≤ k) ∧ Aside0 (Kd.S (Kd.slice 61 k61) 40 w' w.heap.size (fun _ => True) v7 x7_1) ∧ Aside0 (Below w.heap.size w w'))
 case atStart => exact ⟨(([] : List (List (S61)))), (0), (by first | rfl | (simp; done) | (simp [*]; done)), H', ⟨Nat.le_refl _⟩, ⟨by first | exact Kd.S_nil _ _ _ _ _ | exact Kd.N_nil _ _ _ _ _ | exact Kd.V_nil _ _ _ _ _ | exact Kd.Q_nil _ _ _ _ _ | exact Kd.R_nil _ _ _ _ _⟩, ⟨by repeat (first | (with_reducible first | exact HB.out | apply yA | apply yN | apply yD) | exact HB.out)⟩⟩
 case round =>
  clear H'
  try clear c1
  try clear p2
  obtain ⟨x7_1, x8_1, rfl, HA, HK1, HO_7, HB⟩ := hrel
  cases gk with
  | zero => exact absurd HA.out (by simp [tacticianref02_TameRows.l0])
  | succ k1 =>
   have H := HA.out
   clear HA
   simp only [tacticianref02_TameRows.l0] at H
   have HC4 := Aside0.mk H
   clear H
   go_upto_region 3 with (fail)
   go_cut [20] (fun v20 wc => ∃ (kq : Nat) (x20_3 : Bool), v20 = .bool x20_3 ∧ Aside0 (tacticianref02_TameRows.j1 kq l0 l1 a2 x7_1 x8_1 x20_3 = some r) ∧ Aside0 (kq ≤ k1) ∧ Aside0 (Kd.S (Kd.slice 61 k61) 40 wc w.heap.size (fun _ => True) u7 x7_1) ∧ Aside0 (Below w.heap.size w wc))
   case first =>
    have H := HC4.out
    clear HC4
    by_cases c5 : x8_1 < (l1.length : Int)
    ·rw [if_pos c5] at H
     have c5b0 : decide (x8_1 < (l1.length : Int)) = true := decide_eq_true c5
     clear c5
     (first | rw [c5b0] | (simp only [i64_w, i32_w]; rw [c5b0]) | skip)
     have H' := Aside0.mk H
     clear H
     go_wp2
     go_meet
     case rel => exact ⟨_, (decide (x8_1 < a2)), (by first | rfl | (simp; done) | (simp [*]; done)), H', ⟨by have := HK1.out; first | omega | exact Nat.le_refl _⟩, ⟨by (with_reducible repeat (first | apply Kd.S_alloc | apply Kd.S_drewN | apply Kd.S_drew)); exact HO_7.out⟩, ⟨by repeat (first | (with_reducible first | exact HB.out | apply yA | apply yN | apply yD) | exact HB.out)⟩⟩
    ·rw [if_neg c5] at H
     have c5b0 : decide (x8_1 < (l1.length : Int)) = false := decide_eq_false c5
     clear c5
     (first | rw [c5b0] | (simp only [i64_w, i32_w]; rw [c5b0]) | skip)
     have H' := Aside0.mk H
     clear H
     go_wp2
     go_meet
     case rel => exact ⟨_, (false), (by first | rfl | (simp; done) | (simp [*]; done)), H', ⟨by have := HK1.out; first | omega | exact Nat.le_refl _⟩, ⟨by (with_reducible repeat (first | apply Kd.S_alloc | apply Kd.S_drewN | apply Kd.S_drew)); exact HO_7.out⟩, ⟨by repeat (first | (with_reducible first | exact HB.out | apply yA | apply yN | apply yD) | exact HB.out)⟩⟩
   case rest =>
    clear HC4
    try clear c1
    try clear p2
    try clear c5
    try clear c5b0
    try clear p2
    obtain ⟨kq, x20_3, rfl, HA, HJ3, HO_7, HB⟩ := hcut
    cases kq with
    | zero => exact absurd HA.out (by simp [tacticianref02_TameRows.j1])
    | succ kj3 =>
     have H := HA.out
     clear HA
     simp only [tacticianref02_TameRows.j1] at H
     by_cases c6 : x20_3 = true
     ·subst c6
      have H1 : (tacticianref02_TameRows.l1 kj3 l0 l1 a2 x7_1 x8_1 ([] : List (S61)) 0) = some r := by rw [if_pos rfl] at H; exact H
      clear H
      have H := H1
      clear H1
      have H' := Aside0.mk H
      clear H
      go_wp2
      go_loopg [9, 10] kj3 (fun kq v9 v10 w' => ∃ (x9_3 : List (S61)) (x10_3 : Int), v10 = .int .i64 x10_3 ∧ Aside0 (tacticianref02_TameRows.l1 kq l0 l1 a2 x7_1 x8_1 x9_3 x10_3 = some r) ∧ Aside0 (kq ≤ kj3) ∧ Aside0 (Kd.S (Kd.slice 61 k61) 40 w' w.heap.size (fun k_ => some k_ ≠ (v9 : Value).ownBlock) u7 x7_1) ∧ Aside0 (Kd.R k61 61 w' w.heap.size (fun _ => True) v9 x9_3) ∧ Aside0 (Below w.heap.size w w'))
      case atStart => exact ⟨(([] : List (S61))), (0), (by first | rfl | (simp; done) | (simp [*]; done)), H', ⟨Nat.le_refl _⟩, ⟨by (with_reducible repeat (first | apply Kd.S_alloc | apply Kd.S_drewN | apply Kd.S_drew)); exact Kd.S_mono HO_7.out (fun _ hk => (by simp [Value.ownBlock]))⟩, ⟨by first | exact Kd.R_nil _ _ _ _ _ | exact Kd.N_nil _ _ _ _ _ | exact Kd.V_nil _ _ _ _ _ | exact Kd.Q_nil _ _ _ _ _ | exact Kd.S_nil _ _ _ _ _⟩, ⟨by repeat (first | (with_reducible first | exact HB.out | apply yA | apply yN | apply yD) | exact HB.out)⟩⟩
      case round =>
       clear H'
       try clear c1
       try clear p2
       try clear c5
       try clear c5b0
       try clear c6
       try clear p2
       obtain ⟨x9_3, x10_3, rfl, HA, HK3, HO_7, HO_9, HB⟩ := hrel
       cases gk with
       | zero => exact absurd HA.out (by simp [tacticianref02_TameRows.l1])
       | succ k3 =>
        have H := HA.out
        clear HA
        simp only [tacticianref02_TameRows.l1] at H
        by_cases c7 : x10_3 < (l0.length : Int)
        ·rw [if_pos c7] at H
         have c7b0 : decide (x10_3 < (l0.length : Int)) = true := decide_eq_true c7
         clear c7
         by_cases c8 : 0 ≤ x8_1
         ·rw [if_pos c8] at H
          have c8b0 : decide (0 ≤ x8_1) = true := decide_eq_true c8
          clear c8
          by_cases c9 : x8_1 < (l1.length : Int)
          ·rw [if_pos c9] at H
           have c9b0 : decide (x8_1 < (l1.length : Int)) = true := decide_eq_true c9
           clear c9
           by_cases c10 : ((rd_L3 l1 x8_1).length : Int) > 0
           ·rw [if_pos c10] at H
            have c10b0 : decide (0 < ((rd_L3 l1 x8_1).length : Int)) = true := decide_eq_true c10
            have c10b1 : decide (0 < (rd_L3 l1 x8_1).length) = true := decide_eq_true (by omega)
            clear c10
            by_cases c11 : ((rd_L3 l1 x8_1).length : Int) = 0
            ·rw [if_pos c11] at H
             exact absurd H (by simp)
            ·rw [if_neg c11] at H
             have c11b0 : (((rd_L3 l1 x8_1).length : Int) == 0) = false := beq_eq_false_iff_ne.mpr c11
             have c11b1 : (((rd_L3 l1 x8_1).length : Int) != 0) = true := bne_iff_ne.mpr c11
             have c11b2 : ¬ ((rd_L3 l1 x8_1) = []) := fun h_ => c11 (by rw [h_]; rfl)
             obtain ⟨ji12, hji12⟩ : ∃ j_ : Int, (Int.tmod x10_3 ((rd_L3 l1 x8_1).length : Int)) = j_ := ⟨_, rfl⟩
             replace H : (if 0 ≤ (ji12) then (if (ji12) < ((rd_L3 l1 x8_1).length : Int) then (if 0 ≤ x10_3 then ((tacticianref01_TameAs.f k3 ((rd_T61 (rd_L3 l1 x8_1) (ji12)).f0) (wrap64 (((rd_T61 (rd_L3 l1 x8_1) (ji12)).f1) + (wrap64 (Int.tdiv x10_3 ((rd_L3 l1 x8_1).length : Int))))) ((rd_T61 (rd_L3 l1 x8_1) (ji12)).f2) ((rd_T88 l0 x10_3).f0) ((rd_T88 l0 x10_3).f1)).bind fun bt558 => (if x9_3.length < 4398046511104 then (tacticianref02_TameRows.l1 k3 l0 l1 a2 x7_1 x8_1 (x9_3 ++ [(⟨bt558.1, bt558.2.1, bt558.2.2⟩ : S61)]) (wrap64 (x10_3 + 1))) else (none))) else (none)) else (none)) else (none)) = some r := by first | (rw [hji12] at H; exact H) | (simp only [hji12] at H ⊢; exact H)
             by_cases c13 : 0 ≤ (ji12)
             ·rw [if_pos c13] at H
              have c13b0 : decide (0 ≤ (ji12)) = true := decide_eq_true c13
              clear c13
              by_cases c14 : (ji12) < ((rd_L3 l1 x8_1).length : Int)
              ·rw [if_pos c14] at H
               have c14b0 : decide ((ji12) < ((rd_L3 l1 x8_1).length : Int)) = true := decide_eq_true c14
               clear c14
               by_cases c15 : 0 ≤ x10_3
               ·rw [if_pos c15] at H
                have c15b0 : decide (0 ≤ x10_3) = true := decide_eq_true c15
                clear c15
                replace H := Option.bind_eq_some_iff.mp H
                obtain ⟨⟨t558, t559, t560⟩, A160, H⟩ := H
                replace H : (if x9_3.length < 4398046511104 then (tacticianref02_TameRows.l1 k3 l0 l1 a2 x7_1 x8_1 (x9_3 ++ [(⟨t558, t559, t560⟩ : S61)]) (wrap64 (x10_3 + 1))) else (none)) = some r := H
                have A16 := Aside0.mk A160
                clear A160
                by_cases c17 : x9_3.length < 4398046511104
                ·rw [if_pos c17] at H
                 have LMc17 := Aside0.mk c17
                 clear c17
                 obtain ⟨y561, hy561⟩ : ∃ y_ : List (S61), y_ = (x9_3 ++ [(⟨t558, t559, t560⟩ : S61)]) := ⟨_, rfl⟩
                 replace H : (tacticianref02_TameRows.l1 k3 l0 l1 a2 x7_1 x8_1 y561 (wrap64 (x10_3 + 1))) = some r := by first | (rw [hy561]; with_reducible exact H) | (have H2_ := (Option.bind_some _ _).symm.trans H; rw [hy561]; with_reducible exact H2_) | (have H2_ := (Option.bind_some _ _).symm.trans H; with_reducible exact H2_) | with_reducible exact H | (rw [hy561]; exact H) | exact H
                 have Ny561 := Aside0.mk hy561
                 clear hy561
                 have H' := Aside0.mk H
                 clear H
                 try go_wp2_with (first | ((with_reducible refine gate_dst (N := 11) rfl ?_); refine box_event ?hg (N := 11) ?hd (cs := #[.int .i64 0, .int .i64 0, .string (⟨#[]⟩ : ByteArray)]) (t := 61) ?hr ?_; (case hd => rfl); (case hg => rfl); (case hr => first | (go_simp; done) | (go_simp; rfl)); intro gb551 hg w18 hbox hb; have n0_ := Aside0.mk (Kd.S_below (Kd.S_elderB (by (with_reducible repeat (first | apply Kd.S_alloc | apply Kd.S_drewN | apply Kd.S_drew)); exact HO_7.out) gb551 (Nat.le_of_eq hg.symm)) hb); have n1_ := Aside0.mk (Kd.R_below (Kd.R_elderB (by (with_reducible repeat (first | apply Kd.R_alloc | apply Kd.R_drewN | apply Kd.R_drew)); exact HO_9.out) gb551 (Nat.le_of_eq hg.symm)) hb); have n2_ := Aside0.mk (below_step (by repeat (first | (with_reducible first | exact HB.out | apply yA | apply yN | apply yD) | exact HB.out)) hb); have n3_ := Aside0.mk (hbox); have n4_ := Aside0.mk ((by rw [hg]; exact (below_size (by repeat (first | (with_reducible first | exact HB.out | apply yA | apply yN | apply yD) | exact HB.out))) : w.heap.size ≤ gb551)); have n5_ := Aside0.mk ((by rw [hg]; exact (below_size (by repeat (first | (with_reducible first | exact HB.out | apply yA | apply yN | apply yD) | exact HB.out))) : w.heap.size ≤ gb551)); clear HO_7; clear HO_9; clear HB; have HO_7 := n0_; have HO_9 := n1_; have HB := n2_; have BK551 := n3_; have GW551 := n4_; have GE551 := n5_; clear n0_ n1_ n2_ n3_ n4_ n5_; clear hb hbox hg; have hcz19_0 : w18.cell? ⟨gb551, 0, none⟩ = some (.int .i64 0) := (blk_cell BK551.out 0).trans rfl; have hcz19_1 : w18.cell? ⟨gb551, 1, none⟩ = some (.int .i64 0) := (blk_cell BK551.out 1).trans rfl; have hcz19_2 : w18.cell? ⟨gb551, 2, none⟩ = some (.string (⟨#[]⟩ : ByteArray)) := (blk_cell BK551.out 2).trans rfl; have hfz19_0 := blk_frozen BK551.out 0; have hfz19_1 := blk_frozen BK551.out 1; have hfz19_2 := blk_frozen BK551.out 2; have p552 : 0 ≤ (x8_1 : Int) := of_decide_eq_true (by first | (with_reducible assumption) | assumption); have q552 : x8_1 < (l1.length : Int) := of_decide_eq_true (by first | (with_reducible assumption) | assumption); obtain ⟨ad552, A552_0, c552_0, e552, hx552_0, hl552_0, hi552_0⟩ := at_L3 HR1.out x8_1 p552 q552; cases e552; have hn552_0 : ad552.block ≠ gb551 := Nat.ne_of_lt (Nat.lt_of_lt_of_le (by have := World.block_lt_of_cell? _ _ hx552_0; first | rwa [add_block] at this | exact this) GW551.out); have hn552_1 : ad552.block ≠ gb551 := Nat.ne_of_lt (Nat.lt_of_lt_of_le (by have := World.block_lt_of_cell? _ _ hx552_0; first | rwa [add_block] at this | exact this) GW551.out); have hn552_2 : ad552.block ≠ gb551 := Nat.ne_of_lt (Nat.lt_of_lt_of_le (by have := World.block_lt_of_cell? _ _ hx552_0; first | rwa [add_block] at this | exact this) GW551.out); replace hx552_0 := (HB.out.cell (World.block_lt_of_cell? w _ hx552_0)).trans hx552_0; have HR552_0 := Aside0.mk hi552_0; have HC552_0 := Aside0.mk hl552_0; clear hi552_0 hl552_0; replace hx552_0 := (cell_far (p := ⟨gb551, 0, none⟩) (by first | (rw [add_block]; exact hn552_0) | (show (Addr.add _ _).block ≠ _; rw [add_block]; exact hn552_0) | exact hn552_0) (.int .i64 0)).trans hx552_0; replace hx552_0 := (cell_far (p := ⟨gb551, 1, none⟩) (by first | (rw [add_block]; exact hn552_1) | (show (Addr.add _ _).block ≠ _; rw [add_block]; exact hn552_1) | exact hn552_1) (.int .i64 0)).trans hx552_0; replace hx552_0 := (cell_far (p := ⟨gb551, 2, none⟩) (by first | (rw [add_block]; exact hn552_2) | (show (Addr.add _ _).block ≠ _; rw [add_block]; exact hn552_2) | exact hn552_2) (.string (⟨#[]⟩ : ByteArray))).trans hx552_0; clear hn552_0; clear hn552_1; clear hn552_2; replace p552 := eq_true p552; replace q552 := eq_true q552))
                 have n0_ : Aside0 (Kd.S (Kd.slice 61 k61) 40 (((w18.setCell ⟨gb551, 0, none⟩ (.int .i64 0)).setCell ⟨gb551, 1, none⟩ (.int .i64 0)).setCell ⟨gb551, 2, none⟩ (.string (⟨#[]⟩ : ByteArray))) w.heap.size (fun k_ => some k_ ≠ (u9 : Value).ownBlock ∧ k_ ≠ gb551) u7 x7_1) := ⟨by (with_reducible repeat (first | apply Kd.S_alloc | apply Kd.S_drewN | apply Kd.S_drew)); exact Kd.S_mono (Kd.S_far (p := ⟨gb551, 2, none⟩) (Kd.S_far (p := ⟨gb551, 1, none⟩) (Kd.S_far (p := ⟨gb551, 0, none⟩) (Kd.S_mono HO_7.out (fun k_ hk => (⟨hk, hk.2⟩ : _ ∧ k_ ≠ gb551))) (fun _ hk => hk.2) (.int .i64 0)) (fun _ hk => hk.2) (.int .i64 0)) (fun _ hk => hk.2) (.string (⟨#[]⟩ : ByteArray))) (fun _ hk => ⟨hk.1.1, hk.1.2⟩)⟩
                 have n1_ : Aside0 (Kd.R k61 61 (((w18.setCell ⟨gb551, 0, none⟩ (.int .i64 0)).setCell ⟨gb551, 1, none⟩ (.int .i64 0)).setCell ⟨gb551, 2, none⟩ (.string (⟨#[]⟩ : ByteArray))) w.heap.size (fun k_ => k_ ≠ gb551) u9 x9_3) := ⟨by (with_reducible repeat (first | apply Kd.R_alloc | apply Kd.R_drewN | apply Kd.R_drew)); exact Kd.R_mono (Kd.R_far (p := ⟨gb551, 2, none⟩) (Kd.R_far (p := ⟨gb551, 1, none⟩) (Kd.R_far (p := ⟨gb551, 0, none⟩) (Kd.R_mono HO_9.out (fun k_ hk => (⟨hk, hk.2⟩ : _ ∧ k_ ≠ gb551))) (fun _ hk => hk.2) (.int .i64 0)) (fun _ hk => hk.2) (.int .i64 0)) (fun _ hk => hk.2) (.string (⟨#[]⟩ : ByteArray))) (fun _ hk => hk.1.2)⟩
                 have n2_ : Aside0 ((((w18.setCell ⟨gb551, 0, none⟩ (.int .i64 0)).setCell ⟨gb551, 1, none⟩ (.int .i64 0)).setCell ⟨gb551, 2, none⟩ (.string (⟨#[]⟩ : ByteArray))).heap[gb551]? = some (.cells #[.int .i64 0, .int .i64 0, .string (⟨#[]⟩ : ByteArray)] 61 (0, 0))) := ⟨by (with_reducible repeat (first | refine zN ?_ _ | refine zD ?_ | refine zA ?_ _)); refine blk_put (cs := #[.int .i64 0, .int .i64 0, .string (⟨#[]⟩ : ByteArray)]) ?_ 2 _ rfl; (with_reducible repeat (first | refine zN ?_ _ | refine zD ?_ | refine zA ?_ _)); refine blk_put (cs := #[.int .i64 0, .int .i64 0, .string (⟨#[]⟩ : ByteArray)]) ?_ 1 _ rfl; (with_reducible repeat (first | refine zN ?_ _ | refine zD ?_ | refine zA ?_ _)); refine blk_put (cs := #[.int .i64 0, .int .i64 0, .string (⟨#[]⟩ : ByteArray)]) ?_ 0 _ rfl; (with_reducible repeat (first | refine zN ?_ _ | refine zD ?_ | refine zA ?_ _)); exact BK551.out⟩
                 have n3_ : Aside0 (Below w.heap.size w (((w18.setCell ⟨gb551, 0, none⟩ (.int .i64 0)).setCell ⟨gb551, 1, none⟩ (.int .i64 0)).setCell ⟨gb551, 2, none⟩ (.string (⟨#[]⟩ : ByteArray)))) := ⟨by repeat (first | (with_reducible first | exact HB.out | apply yA | apply yN | apply yD | refine below_set ?_ GE551.out) | exact HB.out)⟩
                 (try clear HO_7)
                 (try clear HO_9)
                 (try clear BK551)
                 (try clear HB)
                 generalize (((w18.setCell ⟨gb551, 0, none⟩ (.int .i64 0)).setCell ⟨gb551, 1, none⟩ (.int .i64 0)).setCell ⟨gb551, 2, none⟩ (.string (⟨#[]⟩ : ByteArray))) = w20 at n0_ n1_ n2_ n3_ ⊢
                 have HO_7 := n0_
                 have HO_9 := n1_
                 have BK551 := n2_
                 have HB := n3_
                 clear n0_ n1_ n2_ n3_
                 have n0_ := Aside0.mk (Kd.S_drew HO_7.out)
                 have n1_ := Aside0.mk (Kd.R_drew HO_9.out)
                 have n2_ := Aside0.mk (blk_drew BK551.out)
                 have n3_ := Aside0.mk (below_drew1 HB.out)
                 clear HO_7
                 clear HO_9
                 clear BK551
                 clear HB
                 have HO_7 := n0_
                 have HO_9 := n1_
                 have BK551 := n2_
                 have HB := n3_
                 clear n0_ n1_ n2_ n3_
                 have p553 : 0 ≤ (x8_1 : Int) := of_decide_eq_true (by first | (with_reducible assumption) | assumption)
                 have q553 : x8_1 < (l1.length : Int) := of_decide_eq_true (by first | (with_reducible assumption) | assumption)
                 obtain ⟨ad553, A553_0, c553_0, e553, hx553_0, hl553_0, hi553_0⟩ := at_L3 HR1.out x8_1 p553 q553
                 have hw553_0 := hx553_0
                 obtain rfl : ad552 = ad553 := (by injection e553)
                 replace hx553_0 := (HB.out.cell (World.block_lt_of_cell? w _ hx553_0)).trans hx553_0
                 have HR553_0 := Aside0.mk hi553_0
                 have HC553_0 := Aside0.mk hl553_0
                 clear hi553_0 hl553_0
                 replace p553 := eq_true p553
                 replace q553 := eq_true q553
                 have p554 : 0 ≤ (x8_1 : Int) := of_decide_eq_true (by first | (with_reducible assumption) | assumption)
                 have q554 : x8_1 < (l1.length : Int) := of_decide_eq_true (by first | (with_reducible assumption) | assumption)
                 obtain ⟨ad554, A554_0, c554_0, e554, hx554_0, hl554_0, hi554_0⟩ := at_L3 HR1.out x8_1 p554 q554
                 have hw554_0 := hx554_0
                 obtain rfl : ad552 = ad554 := (by injection e554)
                 replace hx554_0 := (HB.out.cell (World.block_lt_of_cell? w _ hx554_0)).trans hx554_0
                 have HR554_0 := Aside0.mk hi554_0
                 have HC554_0 := Aside0.mk hl554_0
                 clear hi554_0 hl554_0
                 replace p554 := eq_true p554
                 replace q554 := eq_true q554
                 have ea_ := Option.some.inj (hx553_0.symm.trans hx554_0)
                 injection ea_ with ea_ en_ ec_
                 subst ea_
                 subst ec_
                 clear en_
                 have p555 : 0 ≤ ((ji12) : Int) := of_decide_eq_true (by first | (with_reducible assumption) | assumption)
                 have q555 : (ji12) < ((rd_L3 l1 x8_1).length : Int) := of_decide_eq_true (by first | (with_reducible assumption) | assumption)
                 obtain ⟨ad555, e555, hx555_0, hx555_1, hx555_2⟩ := at_T61 HR553_0.out (ji12) p555 q555
                 have hw555_2 := hx555_2
                 have hw555_1 := hx555_1
                 have hw555_0 := hx555_0
                 cases e555
                 replace hx555_0 := (HB.out.cell (World.block_lt_of_cell? w _ hx555_0)).trans hx555_0
                 replace hx555_1 := (HB.out.cell (World.block_lt_of_cell? w _ hx555_1)).trans hx555_1
                 replace hx555_2 := (HB.out.cell (World.block_lt_of_cell? w _ hx555_2)).trans hx555_2
                 replace p555 := eq_true p555
                 replace q555 := eq_true q555
                 refine start_ (n := 14) (S := fun w' => w'.cell? (ad552.add (x8_1).toNat) = some (.slice (some ad555) (rd_L3 l1 x8_1).length c553_0) ∧ w'.cell? (ad552.add (x8_1).toNat) = some (.slice (some ad555) (rd_L3 l1 x8_1).length c553_0) ∧ w'.cell? (ad555.add (((ji12)).toNat * 3)) = some (.int .i64 ((rd_T61 (rd_L3 l1 x8_1) (ji12)).f0)) ∧ w'.cell? ⟨(ad555.add (((ji12)).toNat * 3)).block, (ad555.add (((ji12)).toNat * 3)).off + 1, none⟩ = some (.int .i64 ((rd_T61 (rd_L3 l1 x8_1) (ji12)).f1)) ∧ w'.cell? ⟨(ad555.add (((ji12)).toNat * 3)).block, (ad555.add (((ji12)).toNat * 3)).off + 2, none⟩ = some (.string ((rd_T61 (rd_L3 l1 x8_1) (ji12)).f2))) (ds := []) #[false, false, false, false, false, false, false, false, false, false, false, false, false, false] (by kernel_rfl) rfl rfl ⟨((HB.out.cell (World.block_lt_of_cell? w _ hw553_0)).trans hw553_0), ((HB.out.cell (World.block_lt_of_cell? w _ hw554_0)).trans hw554_0), ((HB.out.cell (World.block_lt_of_cell? w _ hw555_0)).trans hw555_0), ((HB.out.cell (World.block_lt_of_cell? w _ hw555_1)).trans hw555_1), ((HB.out.cell (World.block_lt_of_cell? w _ hw555_2)).trans hw555_2)⟩ (fun hHeld => ?_); refine with_tabW tacticianref02_TameRows.tab11 tacticianref02_TameRows.bits11 (fun HT_ HW_ => ?_)
                 generalize w20.drew = w21 at HO_7 HO_9 BK551 HB HR553_0 HR554_0 hx553_0 hx554_0 hx555_0 hx555_1 hx555_2 hHeld ⊢
                 refine pure_ (i := 0) (N := some 36) (v := ?_) (a' := ?_) #[true, false, false, false, false, false, false, false, false, false, false, false, false, false] rfl rfl (any_of HT_.out (by kernel_rfl)) (fun _ _ _ h => h) (Or.inl ⟨by rfl, ?_⟩) ?_ ?_
                 rotate_left
                 ·intro w'
                  go_simp
                  with_reducible rfl
                 rotate_left
                 ·simp only [Act.put, List.setIfInBounds_toArray, List.set_cons_zero, List.set_cons_succ, i64_w, i32_w]
                  rfl
                 refine pure_ (i := 1) (N := some 37) (v := ?_) (a' := ?_) #[true, true, false, false, false, false, false, false, false, false, false, false, false, false] rfl rfl (any_of HT_.out (by kernel_rfl)) (fun _ _ _ h => h) (Or.inl ⟨by rfl, ?_⟩) ?_ ?_
                 rotate_left
                 ·intro w'
                  go_simp
                  with_reducible rfl
                 rotate_left
                 ·simp only [Act.put, List.setIfInBounds_toArray, List.set_cons_zero, List.set_cons_succ, i64_w, i32_w]
                  rfl
                 refine pure_ (i := 2) (N := some 38) (v := ?_) (a' := ?_) #[true, true, true, false, false, false, false, false, false, false, false, false, false, false] rfl rfl (any_of HT_.out (by kernel_rfl)) (fun _ _ _ h => h) (Or.inl ⟨by rfl, ?_⟩) ?_ ?_
                 rotate_left
                 ·intro w'
                  go_simp
                  with_reducible rfl
                 rotate_left
                 ·simp only [Act.put, List.setIfInBounds_toArray, List.set_cons_zero, List.set_cons_succ, i64_w, i32_w]
                  rfl
                 refine pure_ (i := 4) (N := some 40) (v := ?_) (a' := ?_) #[true, true, true, false, true, false, false, false, false, false, false, false, false, false] rfl rfl (any_of HT_.out (by kernel_rfl)) (fun _ _ _ h => h) (Or.inl ⟨by rfl, ?_⟩) ?_ ?_
                 rotate_left
                 ·intro w'
                  go_simp
                  with_reducible rfl
                 rotate_left
                 ·simp only [Act.put, List.setIfInBounds_toArray, List.set_cons_zero, List.set_cons_succ, i64_w, i32_w]
                  rfl
                 refine pure_ (i := 5) (N := some 41) (v := ?_) (a' := ?_) #[true, true, true, false, true, true, false, false, false, false, false, false, false, false] rfl rfl (any_of HT_.out (by kernel_rfl)) (fun _ _ _ h => h) (Or.inl ⟨by rfl, ?_⟩) ?_ ?_
                 rotate_left
                 ·intro w'
                  go_simp
                  with_reducible rfl
                 rotate_left
                 ·simp only [Act.put, List.setIfInBounds_toArray, List.set_cons_zero, List.set_cons_succ, i64_w, i32_w]
                  rfl
                 refine pure_ (i := 6) (N := some 42) (v := ?_) (a' := ?_) #[true, true, true, false, true, true, true, false, false, false, false, false, false, false] rfl rfl (any_of HT_.out (by kernel_rfl)) (fun _ _ _ h => h) (Or.inl ⟨by rfl, ?_⟩) ?_ ?_
                 rotate_left
                 ·intro w'
                  go_simp
                  with_reducible rfl
                 rotate_left
                 ·simp only [Act.put, List.setIfInBounds_toArray, List.set_cons_zero, List.set_cons_succ, i64_w, i32_w]
                  rfl
                 refine pure_ (i := 7) (N := some 43) (v := ?_) (a' := ?_) #[true, true, true, false, true, true, true, true, false, false, false, false, false, false] rfl rfl (any_of HT_.out (by kernel_rfl)) (fun _ _ _ h => h) (Or.inl ⟨by rfl, ?_⟩) ?_ ?_
                 rotate_left
                 ·intro w'
                  go_simp
                  with_reducible rfl
                 rotate_left
                 ·simp only [Act.put, List.setIfInBounds_toArray, List.set_cons_zero, List.set_cons_succ, i64_w, i32_w]
                  rfl
                 refine take_ (i := 3) (N := some 39) (v := ?_) (a' := ?_) #[true, true, true, true, true, true, true, true, false, false, false, false, false, false] rfl rfl (take_ofW HT_.out HW_.out (by kernel_rfl)) (fun _ _ _ h => h) (Or.inl ⟨by rfl, ?_⟩) hHeld ?_ ?_
                 rotate_left
                 ·rintro w' ⟨s0, s1, s2, s3, s4⟩
                  go_simp
                  with_reducible rfl
                 rotate_left
                 ·simp only [Act.put, List.setIfInBounds_toArray, List.set_cons_zero, List.set_cons_succ, i64_w, i32_w]
                  rfl
                 refine take_ (i := 8) (N := some 44) (v := ?_) (a' := ?_) #[true, true, true, true, true, true, true, true, true, false, false, false, false, false] rfl rfl (take_ofW HT_.out HW_.out (by kernel_rfl)) (fun _ _ _ h => h) (Or.inl ⟨by rfl, ?_⟩) hHeld ?_ ?_
                 rotate_left
                 ·rintro w' ⟨s0, s1, s2, s3, s4⟩
                  go_simp
                  with_reducible rfl
                 rotate_left
                 ·simp only [Act.put, List.setIfInBounds_toArray, List.set_cons_zero, List.set_cons_succ, i64_w, i32_w]
                  rfl
                 refine pure_ (i := 9) (N := some 45) (v := ?_) (a' := ?_) #[true, true, true, true, true, true, true, true, true, true, false, false, false, false] rfl rfl (any_of HT_.out (by kernel_rfl)) (fun _ _ _ h => h) (Or.inl ⟨by rfl, ?_⟩) ?_ ?_
                 rotate_left
                 ·intro w'
                  go_simp
                  with_reducible rfl
                 rotate_left
                 ·simp only [Act.put, List.setIfInBounds_toArray, List.set_cons_zero, List.set_cons_succ, i64_w, i32_w]
                  rfl
                 refine pure_ (i := 10) (N := some 46) (v := ?_) (a' := ?_) #[true, true, true, true, true, true, true, true, true, true, true, false, false, false] rfl rfl (any_of HT_.out (by kernel_rfl)) (fun _ _ _ h => h) (Or.inl ⟨by rfl, ?_⟩) ?_ ?_
                 rotate_left
                 ·intro w'
                  go_simp
                  with_reducible rfl
                 rotate_left
                 ·simp only [Act.put, List.setIfInBounds_toArray, List.set_cons_zero, List.set_cons_succ, i64_w, i32_w]
                  rfl
                 refine pure_ (i := 11) (N := some 47) (v := ?_) (a' := ?_) #[true, true, true, true, true, true, true, true, true, true, true, true, false, false] rfl rfl (any_of HT_.out (by kernel_rfl)) (fun _ _ _ h => h) (Or.inl ⟨by rfl, ?_⟩) ?_ ?_
                 rotate_left
                 ·intro w'
                  go_simp
                  with_reducible rfl
                 rotate_left
                 ·simp only [Act.put, List.setIfInBounds_toArray, List.set_cons_zero, List.set_cons_succ, i64_w, i32_w]
                  rfl
                 refine take_ (i := 12) (N := some 48) (v := ?_) (a' := ?_) #[true, true, true, true, true, true, true, true, true, true, true, true, true, false] rfl rfl (take_ofW HT_.out HW_.out (by kernel_rfl)) (fun _ _ _ h => h) (Or.inl ⟨by rfl, ?_⟩) hHeld ?_ ?_
                 rotate_left
                 ·rintro w' ⟨s0, s1, s2, s3, s4⟩
                  go_simp
                  with_reducible rfl
                 rotate_left
                 ·simp only [Act.put, List.setIfInBounds_toArray, List.set_cons_zero, List.set_cons_succ, i64_w, i32_w]
                  rfl
                 refine one_ (i := 13) (N := none) #[true, true, true, true, true, true, true, true, true, true, true, true, true, true] rfl rfl (one_of HT_.out (by kernel_rfl)) (by decide) (fun K hK => ?_)
                 have hs22 : w21.cell? ⟨gb551, 0, none⟩ = some (.int .i64 0) := (blk_cell BK551.out 0).trans rfl
                 have hfs22 := blk_frozen BK551.out 0
                 have hs23 : w21.cell? ⟨gb551, 1, none⟩ = some (.int .i64 0) := (blk_cell BK551.out 1).trans rfl
                 have hfs23 := blk_frozen BK551.out 1
                 have hs24 : w21.cell? ⟨gb551, 2, none⟩ = some (.string (⟨#[]⟩ : ByteArray)) := (blk_cell BK551.out 2).trans rfl
                 have hfs24 := blk_frozen BK551.out 2
                 refine skip_ (w1 := ?_) (by rfl) rfl ?_ ?_
                 rotate_left
                 ·go_simp
                  rfl
                 refine hK.out _ _ ⟨((cell_far (p := ⟨gb551, _, none⟩) (by first | exact Nat.ne_of_lt (Nat.lt_of_lt_of_le (by have := World.block_lt_of_cell? _ _ hw553_0; first | rwa [add_block] at this | exact this) GW551.out) | (rw [add_block]; exact Nat.ne_of_lt (Nat.lt_of_lt_of_le (by have := World.block_lt_of_cell? _ _ hw553_0; first | rwa [add_block] at this | exact this) GW551.out)) | (show (Addr.add _ _).block ≠ _; rw [add_block]; exact Nat.ne_of_lt (Nat.lt_of_lt_of_le (by have := World.block_lt_of_cell? _ _ hw553_0; first | rwa [add_block] at this | exact this) GW551.out)) | (dsimp only; exact Nat.ne_of_lt (Nat.lt_of_lt_of_le (by have := World.block_lt_of_cell? _ _ hw553_0; first | rwa [add_block] at this | exact this) GW551.out))) _).trans (((cell_far (p := ⟨gb551, _, none⟩) (by first | exact Nat.ne_of_lt (Nat.lt_of_lt_of_le (by have := World.block_lt_of_cell? _ _ hw553_0; first | rwa [add_block] at this | exact this) GW551.out) | (rw [add_block]; exact Nat.ne_of_lt (Nat.lt_of_lt_of_le (by have := World.block_lt_of_cell? _ _ hw553_0; first | rwa [add_block] at this | exact this) GW551.out)) | (show (Addr.add _ _).block ≠ _; rw [add_block]; exact Nat.ne_of_lt (Nat.lt_of_lt_of_le (by have := World.block_lt_of_cell? _ _ hw553_0; first | rwa [add_block] at this | exact this) GW551.out)) | (dsimp only; exact Nat.ne_of_lt (Nat.lt_of_lt_of_le (by have := World.block_lt_of_cell? _ _ hw553_0; first | rwa [add_block] at this | exact this) GW551.out))) _).trans (((cell_far (p := ⟨gb551, _, none⟩) (by first | exact Nat.ne_of_lt (Nat.lt_of_lt_of_le (by have := World.block_lt_of_cell? _ _ hw553_0; first | rwa [add_block] at this | exact this) GW551.out) | (rw [add_block]; exact Nat.ne_of_lt (Nat.lt_of_lt_of_le (by have := World.block_lt_of_cell? _ _ hw553_0; first | rwa [add_block] at this | exact this) GW551.out)) | (show (Addr.add _ _).block ≠ _; rw [add_block]; exact Nat.ne_of_lt (Nat.lt_of_lt_of_le (by have := World.block_lt_of_cell? _ _ hw553_0; first | rwa [add_block] at this | exact this) GW551.out)) | (dsimp only; exact Nat.ne_of_lt (Nat.lt_of_lt_of_le (by have := World.block_lt_of_cell? _ _ hw553_0; first | rwa [add_block] at this | exact this) GW551.out))) _).trans (hHeld.1)))))), ((cell_far (p := ⟨gb551, _, none⟩) (by first | exact Nat.ne_of_lt (Nat.lt_of_lt_of_le (by have := World.block_lt_of_cell? _ _ hw554_0; first | rwa [add_block] at this | exact this) GW551.out) | (rw [add_block]; exact Nat.ne_of_lt (Nat.lt_of_lt_of_le (by have := World.block_lt_of_cell? _ _ hw554_0; first | rwa [add_block] at this | exact this) GW551.out)) | (show (Addr.add _ _).block ≠ _; rw [add_block]; exact Nat.ne_of_lt (Nat.lt_of_lt_of_le (by have := World.block_lt_of_cell? _ _ hw554_0; first | rwa [add_block] at this | exact this) GW551.out)) | (dsimp only; exact Nat.ne_of_lt (Nat.lt_of_lt_of_le (by have := World.block_lt_of_cell? _ _ hw554_0; first | rwa [add_block] at this | exact this) GW551.out))) _).trans (((cell_far (p := ⟨gb551, _, none⟩) (by first | exact Nat.ne_of_lt (Nat.lt_of_lt_of_le (by have := World.block_lt_of_cell? _ _ hw554_0; first | rwa [add_block] at this | exact this) GW551.out) | (rw [add_block]; exact Nat.ne_of_lt (Nat.lt_of_lt_of_le (by have := World.block_lt_of_cell? _ _ hw554_0; first | rwa [add_block] at this | exact this) GW551.out)) | (show (Addr.add _ _).block ≠ _; rw [add_block]; exact Nat.ne_of_lt (Nat.lt_of_lt_of_le (by have := World.block_lt_of_cell? _ _ hw554_0; first | rwa [add_block] at this | exact this) GW551.out)) | (dsimp only; exact Nat.ne_of_lt (Nat.lt_of_lt_of_le (by have := World.block_lt_of_cell? _ _ hw554_0; first | rwa [add_block] at this | exact this) GW551.out))) _).trans (((cell_far (p := ⟨gb551, _, none⟩) (by first | exact Nat.ne_of_lt (Nat.lt_of_lt_of_le (by have := World.block_lt_of_cell? _ _ hw554_0; first | rwa [add_block] at this | exact this) GW551.out) | (rw [add_block]; exact Nat.ne_of_lt (Nat.lt_of_lt_of_le (by have := World.block_lt_of_cell? _ _ hw554_0; first | rwa [add_block] at this | exact this) GW551.out)) | (show (Addr.add _ _).block ≠ _; rw [add_block]; exact Nat.ne_of_lt (Nat.lt_of_lt_of_le (by have := World.block_lt_of_cell? _ _ hw554_0; first | rwa [add_block] at this | exact this) GW551.out)) | (dsimp only; exact Nat.ne_of_lt (Nat.lt_of_lt_of_le (by have := World.block_lt_of_cell? _ _ hw554_0; first | rwa [add_block] at this | exact this) GW551.out))) _).trans (hHeld.2.1)))))), ((cell_far (p := ⟨gb551, _, none⟩) (by first | exact Nat.ne_of_lt (Nat.lt_of_lt_of_le (by have := World.block_lt_of_cell? _ _ hw555_0; first | rwa [add_block] at this | exact this) GW551.out) | (rw [add_block]; exact Nat.ne_of_lt (Nat.lt_of_lt_of_le (by have := World.block_lt_of_cell? _ _ hw555_0; first | rwa [add_block] at this | exact this) GW551.out)) | (show (Addr.add _ _).block ≠ _; rw [add_block]; exact Nat.ne_of_lt (Nat.lt_of_lt_of_le (by have := World.block_lt_of_cell? _ _ hw555_0; first | rwa [add_block] at this | exact this) GW551.out)) | (dsimp only; exact Nat.ne_of_lt (Nat.lt_of_lt_of_le (by have := World.block_lt_of_cell? _ _ hw555_0; first | rwa [add_block] at this | exact this) GW551.out))) _).trans (((cell_far (p := ⟨gb551, _, none⟩) (by first | exact Nat.ne_of_lt (Nat.lt_of_lt_of_le (by have := World.block_lt_of_cell? _ _ hw555_0; first | rwa [add_block] at this | exact this) GW551.out) | (rw [add_block]; exact Nat.ne_of_lt (Nat.lt_of_lt_of_le (by have := World.block_lt_of_cell? _ _ hw555_0; first | rwa [add_block] at this | exact this) GW551.out)) | (show (Addr.add _ _).block ≠ _; rw [add_block]; exact Nat.ne_of_lt (Nat.lt_of_lt_of_le (by have := World.block_lt_of_cell? _ _ hw555_0; first | rwa [add_block] at this | exact this) GW551.out)) | (dsimp only; exact Nat.ne_of_lt (Nat.lt_of_lt_of_le (by have := World.block_lt_of_cell? _ _ hw555_0; first | rwa [add_block] at this | exact this) GW551.out))) _).trans (((cell_far (p := ⟨gb551, _, none⟩) (by first | exact Nat.ne_of_lt (Nat.lt_of_lt_of_le (by have := World.block_lt_of_cell? _ _ hw555_0; first | rwa [add_block] at this | exact this) GW551.out) | (rw [add_block]; exact Nat.ne_of_lt (Nat.lt_of_lt_of_le (by have := World.block_lt_of_cell? _ _ hw555_0; first | rwa [add_block] at this | exact this) GW551.out)) | (show (Addr.add _ _).block ≠ _; rw [add_block]; exact Nat.ne_of_lt (Nat.lt_of_lt_of_le (by have := World.block_lt_of_cell? _ _ hw555_0; first | rwa [add_block] at this | exact this) GW551.out)) | (dsimp only; exact Nat.ne_of_lt (Nat.lt_of_lt_of_le (by have := World.block_lt_of_cell? _ _ hw555_0; first | rwa [add_block] at this | exact this) GW551.out))) _).trans (hHeld.2.2.1)))))), ((cell_far (p := ⟨gb551, _, none⟩) (by first | exact Nat.ne_of_lt (Nat.lt_of_lt_of_le (by have := World.block_lt_of_cell? _ _ hw555_1; first | rwa [add_block] at this | exact this) GW551.out) | (rw [add_block]; exact Nat.ne_of_lt (Nat.lt_of_lt_of_le (by have := World.block_lt_of_cell? _ _ hw555_1; first | rwa [add_block] at this | exact this) GW551.out)) | (show (Addr.add _ _).block ≠ _; rw [add_block]; exact Nat.ne_of_lt (Nat.lt_of_lt_of_le (by have := World.block_lt_of_cell? _ _ hw555_1; first | rwa [add_block] at this | exact this) GW551.out)) | (dsimp only; exact Nat.ne_of_lt (Nat.lt_of_lt_of_le (by have := World.block_lt_of_cell? _ _ hw555_1; first | rwa [add_block] at this | exact this) GW551.out))) _).trans (((cell_far (p := ⟨gb551, _, none⟩) (by first | exact Nat.ne_of_lt (Nat.lt_of_lt_of_le (by have := World.block_lt_of_cell? _ _ hw555_1; first | rwa [add_block] at this | exact this) GW551.out) | (rw [add_block]; exact Nat.ne_of_lt (Nat.lt_of_lt_of_le (by have := World.block_lt_of_cell? _ _ hw555_1; first | rwa [add_block] at this | exact this) GW551.out)) | (show (Addr.add _ _).block ≠ _; rw [add_block]; exact Nat.ne_of_lt (Nat.lt_of_lt_of_le (by have := World.block_lt_of_cell? _ _ hw555_1; first | rwa [add_block] at this | exact this) GW551.out)) | (dsimp only; exact Nat.ne_of_lt (Nat.lt_of_lt_of_le (by have := World.block_lt_of_cell? _ _ hw555_1; first | rwa [add_block] at this | exact this) GW551.out))) _).trans (((cell_far (p := ⟨gb551, _, none⟩) (by first | exact Nat.ne_of_lt (Nat.lt_of_lt_of_le (by have := World.block_lt_of_cell? _ _ hw555_1; first | rwa [add_block] at this | exact this) GW551.out) | (rw [add_block]; exact Nat.ne_of_lt (Nat.lt_of_lt_of_le (by have := World.block_lt_of_cell? _ _ hw555_1; first | rwa [add_block] at this | exact this) GW551.out)) | (show (Addr.add _ _).block ≠ _; rw [add_block]; exact Nat.ne_of_lt (Nat.lt_of_lt_of_le (by have := World.block_lt_of_cell? _ _ hw555_1; first | rwa [add_block] at this | exact this) GW551.out)) | (dsimp only; exact Nat.ne_of_lt (Nat.lt_of_lt_of_le (by have := World.block_lt_of_cell? _ _ hw555_1; first | rwa [add_block] at this | exact this) GW551.out))) _).trans (hHeld.2.2.2.1)))))), ((cell_far (p := ⟨gb551, _, none⟩) (by first | exact Nat.ne_of_lt (Nat.lt_of_lt_of_le (by have := World.block_lt_of_cell? _ _ hw555_2; first | rwa [add_block] at this | exact this) GW551.out) | (rw [add_block]; exact Nat.ne_of_lt (Nat.lt_of_lt_of_le (by have := World.block_lt_of_cell? _ _ hw555_2; first | rwa [add_block] at this | exact this) GW551.out)) | (show (Addr.add _ _).block ≠ _; rw [add_block]; exact Nat.ne_of_lt (Nat.lt_of_lt_of_le (by have := World.block_lt_of_cell? _ _ hw555_2; first | rwa [add_block] at this | exact this) GW551.out)) | (dsimp only; exact Nat.ne_of_lt (Nat.lt_of_lt_of_le (by have := World.block_lt_of_cell? _ _ hw555_2; first | rwa [add_block] at this | exact this) GW551.out))) _).trans (((cell_far (p := ⟨gb551, _, none⟩) (by first | exact Nat.ne_of_lt (Nat.lt_of_lt_of_le (by have := World.block_lt_of_cell? _ _ hw555_2; first | rwa [add_block] at this | exact this) GW551.out) | (rw [add_block]; exact Nat.ne_of_lt (Nat.lt_of_lt_of_le (by have := World.block_lt_of_cell? _ _ hw555_2; first | rwa [add_block] at this | exact this) GW551.out)) | (show (Addr.add _ _).block ≠ _; rw [add_block]; exact Nat.ne_of_lt (Nat.lt_of_lt_of_le (by have := World.block_lt_of_cell? _ _ hw555_2; first | rwa [add_block] at this | exact this) GW551.out)) | (dsimp only; exact Nat.ne_of_lt (Nat.lt_of_lt_of_le (by have := World.block_lt_of_cell? _ _ hw555_2; first | rwa [add_block] at this | exact this) GW551.out))) _).trans (((cell_far (p := ⟨gb551, _, none⟩) (by first | exact Nat.ne_of_lt (Nat.lt_of_lt_of_le (by have := World.block_lt_of_cell? _ _ hw555_2; first | rwa [add_block] at this | exact this) GW551.out) | (rw [add_block]; exact Nat.ne_of_lt (Nat.lt_of_lt_of_le (by have := World.block_lt_of_cell? _ _ hw555_2; first | rwa [add_block] at this | exact this) GW551.out)) | (show (Addr.add _ _).block ≠ _; rw [add_block]; exact Nat.ne_of_lt (Nat.lt_of_lt_of_le (by have := World.block_lt_of_cell? _ _ hw555_2; first | rwa [add_block] at this | exact this) GW551.out)) | (dsimp only; exact Nat.ne_of_lt (Nat.lt_of_lt_of_le (by have := World.block_lt_of_cell? _ _ hw555_2; first | rwa [add_block] at this | exact this) GW551.out))) _).trans (hHeld.2.2.2.2))))))⟩ (fun hHeld => ?_)
                 clear hK K
                 refine done_ (done_of HT_.out (by kernel_rfl)) ?_
                 try go_wp2
                 have n0_ : Aside0 (Kd.S (Kd.slice 61 k61) 40 (((w21.setCell ⟨gb551, 0, none⟩ (.int .i64 ((rd_T61 (rd_L3 l1 x8_1) (ji12)).f0))).setCell ⟨gb551, 1, none⟩ (.int .i64 ((rd_T61 (rd_L3 l1 x8_1) (ji12)).f1))).setCell ⟨gb551, 2, none⟩ (.string ((rd_T61 (rd_L3 l1 x8_1) (ji12)).f2))) w.heap.size (fun k_ => some k_ ≠ (u9 : Value).ownBlock ∧ k_ ≠ gb551) u7 x7_1) := ⟨by (with_reducible repeat (first | apply Kd.S_alloc | apply Kd.S_drewN | apply Kd.S_drew)); exact Kd.S_mono (Kd.S_far (p := ⟨gb551, 2, none⟩) (Kd.S_far (p := ⟨gb551, 1, none⟩) (Kd.S_far (p := ⟨gb551, 0, none⟩) (Kd.S_mono HO_7.out (fun k_ hk => (⟨hk, hk.2⟩ : _ ∧ k_ ≠ gb551))) (fun _ hk => hk.2) (.int .i64 ((rd_T61 (rd_L3 l1 x8_1) (ji12)).f0))) (fun _ hk => hk.2) (.int .i64 ((rd_T61 (rd_L3 l1 x8_1) (ji12)).f1))) (fun _ hk => hk.2) (.string ((rd_T61 (rd_L3 l1 x8_1) (ji12)).f2))) (fun _ hk => ⟨hk.1.1, hk.1.2⟩)⟩
                 have n1_ : Aside0 (Kd.R k61 61 (((w21.setCell ⟨gb551, 0, none⟩ (.int .i64 ((rd_T61 (rd_L3 l1 x8_1) (ji12)).f0))).setCell ⟨gb551, 1, none⟩ (.int .i64 ((rd_T61 (rd_L3 l1 x8_1) (ji12)).f1))).setCell ⟨gb551, 2, none⟩ (.string ((rd_T61 (rd_L3 l1 x8_1) (ji12)).f2))) w.heap.size (fun k_ => k_ ≠ gb551) u9 x9_3) := ⟨by (with_reducible repeat (first | apply Kd.R_alloc | apply Kd.R_drewN | apply Kd.R_drew)); exact Kd.R_mono (Kd.R_far (p := ⟨gb551, 2, none⟩) (Kd.R_far (p := ⟨gb551, 1, none⟩) (Kd.R_far (p := ⟨gb551, 0, none⟩) (Kd.R_mono HO_9.out (fun k_ hk => (⟨hk, hk⟩ : _ ∧ k_ ≠ gb551))) (fun _ hk => hk.2) (.int .i64 ((rd_T61 (rd_L3 l1 x8_1) (ji12)).f0))) (fun _ hk => hk.2) (.int .i64 ((rd_T61 (rd_L3 l1 x8_1) (ji12)).f1))) (fun _ hk => hk.2) (.string ((rd_T61 (rd_L3 l1 x8_1) (ji12)).f2))) (fun _ hk => hk.1)⟩
                 have n2_ : Aside0 ((((w21.setCell ⟨gb551, 0, none⟩ (.int .i64 ((rd_T61 (rd_L3 l1 x8_1) (ji12)).f0))).setCell ⟨gb551, 1, none⟩ (.int .i64 ((rd_T61 (rd_L3 l1 x8_1) (ji12)).f1))).setCell ⟨gb551, 2, none⟩ (.string ((rd_T61 (rd_L3 l1 x8_1) (ji12)).f2))).heap[gb551]? = some (.cells #[.int .i64 ((rd_T61 (rd_L3 l1 x8_1) (ji12)).f0), .int .i64 ((rd_T61 (rd_L3 l1 x8_1) (ji12)).f1), .string ((rd_T61 (rd_L3 l1 x8_1) (ji12)).f2)] 61 (0, 0))) := ⟨by (with_reducible repeat (first | refine zN ?_ _ | refine zD ?_ | refine zA ?_ _)); refine blk_put (cs := #[.int .i64 ((rd_T61 (rd_L3 l1 x8_1) (ji12)).f0), .int .i64 ((rd_T61 (rd_L3 l1 x8_1) (ji12)).f1), .string (⟨#[]⟩ : ByteArray)]) ?_ 2 _ rfl; (with_reducible repeat (first | refine zN ?_ _ | refine zD ?_ | refine zA ?_ _)); refine blk_put (cs := #[.int .i64 ((rd_T61 (rd_L3 l1 x8_1) (ji12)).f0), .int .i64 0, .string (⟨#[]⟩ : ByteArray)]) ?_ 1 _ rfl; (with_reducible repeat (first | refine zN ?_ _ | refine zD ?_ | refine zA ?_ _)); refine blk_put (cs := #[.int .i64 0, .int .i64 0, .string (⟨#[]⟩ : ByteArray)]) ?_ 0 _ rfl; (with_reducible repeat (first | refine zN ?_ _ | refine zD ?_ | refine zA ?_ _)); exact BK551.out⟩
                 have n3_ : Aside0 (Below w.heap.size w (((w21.setCell ⟨gb551, 0, none⟩ (.int .i64 ((rd_T61 (rd_L3 l1 x8_1) (ji12)).f0))).setCell ⟨gb551, 1, none⟩ (.int .i64 ((rd_T61 (rd_L3 l1 x8_1) (ji12)).f1))).setCell ⟨gb551, 2, none⟩ (.string ((rd_T61 (rd_L3 l1 x8_1) (ji12)).f2)))) := ⟨by repeat (first | (with_reducible first | exact HB.out | apply yA | apply yN | apply yD | refine below_set ?_ GE551.out) | exact HB.out)⟩
                 (try clear HO_7)
                 (try clear HO_9)
                 (try clear BK551)
                 (try clear HB)
                 generalize (((w21.setCell ⟨gb551, 0, none⟩ (.int .i64 ((rd_T61 (rd_L3 l1 x8_1) (ji12)).f0))).setCell ⟨gb551, 1, none⟩ (.int .i64 ((rd_T61 (rd_L3 l1 x8_1) (ji12)).f1))).setCell ⟨gb551, 2, none⟩ (.string ((rd_T61 (rd_L3 l1 x8_1) (ji12)).f2))) = w25 at n0_ n1_ n2_ n3_ ⊢
                 have HO_7 := n0_
                 have HO_9 := n1_
                 have BK551 := n2_
                 have HB := n3_
                 clear n0_ n1_ n2_ n3_
                 have n0_ := Aside0.mk (Kd.S_drew HO_7.out)
                 have n1_ := Aside0.mk (Kd.R_drew HO_9.out)
                 have n2_ := Aside0.mk (blk_drew BK551.out)
                 have n3_ := Aside0.mk (below_drew1 HB.out)
                 clear HO_7
                 clear HO_9
                 clear BK551
                 clear HB
                 have HO_7 := n0_
                 have HO_9 := n1_
                 have BK551 := n2_
                 have HB := n3_
                 clear n0_ n1_ n2_ n3_
                 have p556 : 0 ≤ (x8_1 : Int) := of_decide_eq_true (by first | (with_reducible assumption) | assumption)
                 have q556 : x8_1 < (l1.length : Int) := of_decide_eq_true (by first | (with_reducible assumption) | assumption)
                 obtain ⟨ad556, A556_0, c556_0, e556, hx556_0, hl556_0, hi556_0⟩ := at_L3 HR1.out x8_1 p556 q556
                 have hw556_0 := hx556_0
                 obtain rfl : ad552 = ad556 := (by injection e556)
                 replace hx556_0 := (HB.out.cell (World.block_lt_of_cell? w _ hx556_0)).trans hx556_0
                 have HR556_0 := Aside0.mk hi556_0
                 have HC556_0 := Aside0.mk hl556_0
                 clear hi556_0 hl556_0
                 replace p556 := eq_true p556
                 replace q556 := eq_true q556
                 refine start_ (n := 12) (S := fun w' => w'.cell? ⟨gb551, 0, none⟩ = some (.int .i64 ((rd_T61 (rd_L3 l1 x8_1) (ji12)).f0)) ∧ w'.cell? ⟨gb551, 1, none⟩ = some (.int .i64 ((rd_T61 (rd_L3 l1 x8_1) (ji12)).f1)) ∧ w'.cell? ⟨gb551, 2, none⟩ = some (.string ((rd_T61 (rd_L3 l1 x8_1) (ji12)).f2)) ∧ w'.cell? (ad552.add (x8_1).toNat) = some (.slice A556_0 (rd_L3 l1 x8_1).length c556_0)) (ds := [11]) #[false, false, false, false, false, false, false, false, false, false, false, false] (by kernel_rfl) rfl rfl ⟨(blk_cell BK551.out 0).trans rfl, (blk_cell BK551.out 1).trans rfl, (blk_cell BK551.out 2).trans rfl, ((HB.out.cell (World.block_lt_of_cell? w _ hw556_0)).trans hw556_0)⟩ (fun hHeld => ?_); refine with_tabW tacticianref02_TameRows.tab12 tacticianref02_TameRows.bits12 (fun HT_ HW_ => ?_)
                 generalize w25.drew = w26 at HO_7 HO_9 BK551 HB HR556_0 hx556_0 hHeld ⊢
                 refine pure_ (i := 0) (N := some 49) (v := ?_) (a' := ?_) #[true, false, false, false, false, false, false, false, false, false, false, false] rfl rfl (any_of HT_.out (by kernel_rfl)) (fun _ _ _ h => h) (Or.inl ⟨by rfl, ?_⟩) ?_ ?_
                 rotate_left
                 ·intro w'
                  go_simp
                  with_reducible rfl
                 rotate_left
                 ·simp only [Act.put, List.setIfInBounds_toArray, List.set_cons_zero, List.set_cons_succ, i64_w, i32_w]
                  rfl
                 refine pure_ (i := 2) (N := some 51) (v := ?_) (a' := ?_) #[true, false, true, false, false, false, false, false, false, false, false, false] rfl rfl (any_of HT_.out (by kernel_rfl)) (fun _ _ _ h => h) (Or.inl ⟨by rfl, ?_⟩) ?_ ?_
                 rotate_left
                 ·intro w'
                  go_simp
                  with_reducible rfl
                 rotate_left
                 ·simp only [Act.put, List.setIfInBounds_toArray, List.set_cons_zero, List.set_cons_succ, i64_w, i32_w]
                  rfl
                 refine pure_ (i := 3) (N := some 52) (v := ?_) (a' := ?_) #[true, false, true, true, false, false, false, false, false, false, false, false] rfl rfl (any_of HT_.out (by kernel_rfl)) (fun _ _ _ h => h) (Or.inl ⟨by rfl, ?_⟩) ?_ ?_
                 rotate_left
                 ·intro w'
                  go_simp
                  with_reducible rfl
                 rotate_left
                 ·simp only [Act.put, List.setIfInBounds_toArray, List.set_cons_zero, List.set_cons_succ, i64_w, i32_w]
                  rfl
                 refine pure_ (i := 4) (N := some 53) (v := ?_) (a' := ?_) #[true, false, true, true, true, false, false, false, false, false, false, false] rfl rfl (any_of HT_.out (by kernel_rfl)) (fun _ _ _ h => h) (Or.inl ⟨by rfl, ?_⟩) ?_ ?_
                 rotate_left
                 ·intro w'
                  go_simp
                  with_reducible rfl
                 rotate_left
                 ·simp only [Act.put, List.setIfInBounds_toArray, List.set_cons_zero, List.set_cons_succ, i64_w, i32_w]
                  rfl
                 refine pure_ (i := 5) (N := some 54) (v := ?_) (a' := ?_) #[true, false, true, true, true, true, false, false, false, false, false, false] rfl rfl (any_of HT_.out (by kernel_rfl)) (fun _ _ _ h => h) (Or.inl ⟨by rfl, ?_⟩) ?_ ?_
                 rotate_left
                 ·intro w'
                  go_simp
                  with_reducible rfl
                 rotate_left
                 ·simp only [Act.put, List.setIfInBounds_toArray, List.set_cons_zero, List.set_cons_succ, i64_w, i32_w]
                  rfl
                 refine take_ (i := 1) (N := some 50) (v := ?_) (a' := ?_) #[true, true, true, true, true, true, false, false, false, false, false, false] rfl rfl (take_ofW HT_.out HW_.out (by kernel_rfl)) (fun _ _ _ h => h) (Or.inl ⟨by rfl, ?_⟩) hHeld ?_ ?_
                 rotate_left
                 ·rintro w' ⟨s0, s1, s2, s3⟩
                  go_simp
                  with_reducible rfl
                 rotate_left
                 ·simp only [Act.put, List.setIfInBounds_toArray, List.set_cons_zero, List.set_cons_succ, i64_w, i32_w]
                  rfl
                 refine take_ (i := 6) (N := some 55) (v := ?_) (a' := ?_) #[true, true, true, true, true, true, true, false, false, false, false, false] rfl rfl (take_ofW HT_.out HW_.out (by kernel_rfl)) (fun _ _ _ h => h) (Or.inl ⟨by rfl, ?_⟩) hHeld ?_ ?_
                 rotate_left
                 ·rintro w' ⟨s0, s1, s2, s3⟩
                  go_simp
                  with_reducible rfl
                 rotate_left
                 ·simp only [Act.put, List.setIfInBounds_toArray, List.set_cons_zero, List.set_cons_succ, i64_w, i32_w]
                  rfl
                 refine pure_ (i := 7) (N := some 56) (v := ?_) (a' := ?_) #[true, true, true, true, true, true, true, true, false, false, false, false] rfl rfl (any_of HT_.out (by kernel_rfl)) (fun _ _ _ h => h) (Or.inl ⟨by rfl, ?_⟩) ?_ ?_
                 rotate_left
                 ·intro w'
                  go_simp
                  with_reducible rfl
                 rotate_left
                 ·simp only [Act.put, List.setIfInBounds_toArray, List.set_cons_zero, List.set_cons_succ, i64_w, i32_w]
                  rfl
                 refine pure_ (i := 8) (N := some 57) (v := ?_) (a' := ?_) #[true, true, true, true, true, true, true, true, true, false, false, false] rfl rfl (any_of HT_.out (by kernel_rfl)) (fun _ _ _ h => h) (Or.inl ⟨by rfl, ?_⟩) ?_ ?_
                 rotate_left
                 ·intro w'
                  go_simp
                  with_reducible rfl
                 rotate_left
                 ·simp only [Act.put, List.setIfInBounds_toArray, List.set_cons_zero, List.set_cons_succ, i64_w, i32_w]
                  rfl
                 refine pure_ (i := 9) (N := some 58) (v := ?_) (a' := ?_) #[true, true, true, true, true, true, true, true, true, true, false, false] rfl rfl (any_of HT_.out (by kernel_rfl)) (fun _ _ _ h => h) (Or.inl ⟨by rfl, ?_⟩) ?_ ?_
                 rotate_left
                 ·intro w'
                  go_simp
                  with_reducible rfl
                 rotate_left
                 ·simp only [Act.put, List.setIfInBounds_toArray, List.set_cons_zero, List.set_cons_succ, i64_w, i32_w]
                  rfl
                 refine pure_ (i := 10) (N := some 59) (v := ?_) (a' := ?_) #[true, true, true, true, true, true, true, true, true, true, true, false] rfl rfl (any_of HT_.out (by kernel_rfl)) (fun _ _ _ h => h) (Or.inl ⟨by rfl, ?_⟩) ?_ ?_
                 rotate_left
                 ·intro w'
                  go_simp
                  with_reducible rfl
                 rotate_left
                 ·simp only [Act.put, List.setIfInBounds_toArray, List.set_cons_zero, List.set_cons_succ, i64_w, i32_w]
                  rfl
                 refine last_ (i := 11) (N := none) #[true, true, true, true, true, true, true, true, true, true, true, true] rfl rfl (one_of HT_.out (by kernel_rfl)) (by decide) (fun K hK => ?_)
                 have hs27 : w26.cell? ⟨gb551, 1, none⟩ = some (.int .i64 ((rd_T61 (rd_L3 l1 x8_1) (ji12)).f1)) := (blk_cell BK551.out 1).trans rfl
                 have hfs27 := blk_frozen BK551.out 1
                 refine skip_ (w1 := ?_) (by rfl) rfl ?_ ?_
                 rotate_left
                 ·go_simp
                  rfl
                 refine hK.out _ _ ?_
                 clear hK K
                 refine done_ (done_of HT_.out (by kernel_rfl)) ?_
                 try clear hx553_0
                 try clear hx554_0
                 try clear HS0_
                 try clear HS1_
                 try clear HS2_
                 try clear HS3_
                 try clear hHeld
                 try go_wp2
                 have n0_ : Aside0 (Kd.S (Kd.slice 61 k61) 40 (w26.setCell ⟨gb551, 1, none⟩ (.int .i64 (wrap64 (((rd_T61 (rd_L3 l1 x8_1) (ji12)).f1) + (wrap64 (Int.tdiv x10_3 ((rd_L3 l1 x8_1).length : Int))))))) w.heap.size (fun k_ => some k_ ≠ (u9 : Value).ownBlock ∧ k_ ≠ gb551) u7 x7_1) := ⟨by (with_reducible repeat (first | apply Kd.S_alloc | apply Kd.S_drewN | apply Kd.S_drew)); exact Kd.S_mono (Kd.S_far (p := ⟨gb551, 1, none⟩) (Kd.S_mono HO_7.out (fun k_ hk => (⟨hk, hk.2⟩ : _ ∧ k_ ≠ gb551))) (fun _ hk => hk.2) (.int .i64 (wrap64 (((rd_T61 (rd_L3 l1 x8_1) (ji12)).f1) + (wrap64 (Int.tdiv x10_3 ((rd_L3 l1 x8_1).length : Int))))))) (fun _ hk => ⟨hk.1.1, hk.1.2⟩)⟩
                 have n1_ : Aside0 (Kd.R k61 61 (w26.setCell ⟨gb551, 1, none⟩ (.int .i64 (wrap64 (((rd_T61 (rd_L3 l1 x8_1) (ji12)).f1) + (wrap64 (Int.tdiv x10_3 ((rd_L3 l1 x8_1).length : Int))))))) w.heap.size (fun k_ => k_ ≠ gb551) u9 x9_3) := ⟨by (with_reducible repeat (first | apply Kd.R_alloc | apply Kd.R_drewN | apply Kd.R_drew)); exact Kd.R_mono (Kd.R_far (p := ⟨gb551, 1, none⟩) (Kd.R_mono HO_9.out (fun k_ hk => (⟨hk, hk⟩ : _ ∧ k_ ≠ gb551))) (fun _ hk => hk.2) (.int .i64 (wrap64 (((rd_T61 (rd_L3 l1 x8_1) (ji12)).f1) + (wrap64 (Int.tdiv x10_3 ((rd_L3 l1 x8_1).length : Int))))))) (fun _ hk => hk.1)⟩
                 have n2_ : Aside0 ((w26.setCell ⟨gb551, 1, none⟩ (.int .i64 (wrap64 (((rd_T61 (rd_L3 l1 x8_1) (ji12)).f1) + (wrap64 (Int.tdiv x10_3 ((rd_L3 l1 x8_1).length : Int))))))).heap[gb551]? = some (.cells #[.int .i64 ((rd_T61 (rd_L3 l1 x8_1) (ji12)).f0), .int .i64 (wrap64 (((rd_T61 (rd_L3 l1 x8_1) (ji12)).f1) + (wrap64 (Int.tdiv x10_3 ((rd_L3 l1 x8_1).length : Int))))), .string ((rd_T61 (rd_L3 l1 x8_1) (ji12)).f2)] 61 (0, 0))) := ⟨by (with_reducible repeat (first | refine zN ?_ _ | refine zD ?_ | refine zA ?_ _)); refine blk_put (cs := #[.int .i64 ((rd_T61 (rd_L3 l1 x8_1) (ji12)).f0), .int .i64 ((rd_T61 (rd_L3 l1 x8_1) (ji12)).f1), .string ((rd_T61 (rd_L3 l1 x8_1) (ji12)).f2)]) ?_ 1 _ rfl; (with_reducible repeat (first | refine zN ?_ _ | refine zD ?_ | refine zA ?_ _)); exact BK551.out⟩
                 have n3_ : Aside0 (Below w.heap.size w (w26.setCell ⟨gb551, 1, none⟩ (.int .i64 (wrap64 (((rd_T61 (rd_L3 l1 x8_1) (ji12)).f1) + (wrap64 (Int.tdiv x10_3 ((rd_L3 l1 x8_1).length : Int)))))))) := ⟨by repeat (first | (with_reducible first | exact HB.out | apply yA | apply yN | apply yD | refine below_set ?_ GE551.out) | exact HB.out)⟩
                 (try clear HO_7)
                 (try clear HO_9)
                 (try clear BK551)
                 (try clear HB)
                 generalize (w26.setCell ⟨gb551, 1, none⟩ (.int .i64 (wrap64 (((rd_T61 (rd_L3 l1 x8_1) (ji12)).f1) + (wrap64 (Int.tdiv x10_3 ((rd_L3 l1 x8_1).length : Int))))))) = w28 at n0_ n1_ n2_ n3_ ⊢
                 have HO_7 := n0_
                 have HO_9 := n1_
                 have BK551 := n2_
                 have HB := n3_
                 clear n0_ n1_ n2_ n3_
                 have n0_ := Aside0.mk (Kd.S_drew HO_7.out)
                 have n1_ := Aside0.mk (Kd.R_drew HO_9.out)
                 have n2_ := Aside0.mk (blk_drew BK551.out)
                 have n3_ := Aside0.mk (below_drew1 HB.out)
                 clear HO_7
                 clear HO_9
                 clear BK551
                 clear HB
                 have HO_7 := n0_
                 have HO_9 := n1_
                 have BK551 := n2_
                 have HB := n3_
                 clear n0_ n1_ n2_ n3_
                 have p557 : 0 ≤ (x10_3 : Int) := of_decide_eq_true (by first | (with_reducible assumption) | assumption)
                 have q557 : x10_3 < (l0.length : Int) := of_decide_eq_true (by first | (with_reducible assumption) | assumption)
                 obtain ⟨ad557, e557, hx557_0, hx557_1⟩ := at_T88 HR0.out x10_3 p557 q557
                 have hw557_1 := hx557_1
                 have hw557_0 := hx557_0
                 cases e557
                 replace hx557_0 := (HB.out.cell (World.block_lt_of_cell? w _ hx557_0)).trans hx557_0
                 replace hx557_1 := (HB.out.cell (World.block_lt_of_cell? w _ hx557_1)).trans hx557_1
                 replace p557 := eq_true p557
                 replace q557 := eq_true q557
                 refine start_ (n := 10) (S := fun w' => w'.cell? ⟨gb551, 0, none⟩ = some (.int .i64 ((rd_T61 (rd_L3 l1 x8_1) (ji12)).f0)) ∧ w'.cell? ⟨gb551, 1, none⟩ = some (.int .i64 (wrap64 (((rd_T61 (rd_L3 l1 x8_1) (ji12)).f1) + (wrap64 (Int.tdiv x10_3 ((rd_L3 l1 x8_1).length : Int)))))) ∧ w'.cell? ⟨gb551, 2, none⟩ = some (.string ((rd_T61 (rd_L3 l1 x8_1) (ji12)).f2)) ∧ w'.cell? (ad557.add ((x10_3).toNat * 2)) = some (.int .i64 ((rd_T88 l0 x10_3).f0)) ∧ w'.cell? ⟨(ad557.add ((x10_3).toNat * 2)).block, (ad557.add ((x10_3).toNat * 2)).off + 1, none⟩ = some (.bool ((rd_T88 l0 x10_3).f1))) (ds := []) #[false, false, false, false, false, false, false, false, false, false] (by kernel_rfl) rfl rfl ⟨(blk_cell BK551.out 0).trans rfl, (blk_cell BK551.out 1).trans rfl, (blk_cell BK551.out 2).trans rfl, ((HB.out.cell (World.block_lt_of_cell? w _ hw557_0)).trans hw557_0), ((HB.out.cell (World.block_lt_of_cell? w _ hw557_1)).trans hw557_1)⟩ (fun hHeld => ?_); refine with_tabW tacticianref02_TameRows.tab13 tacticianref02_TameRows.bits13 (fun HT_ HW_ => ?_)
                 generalize w28.drew = w29 at HO_7 HO_9 BK551 HB hx557_0 hx557_1 hHeld ⊢
                 refine pure_ (i := 0) (N := some 60) (v := ?_) (a' := ?_) #[true, false, false, false, false, false, false, false, false, false] rfl rfl (any_of HT_.out (by kernel_rfl)) (fun _ _ _ h => h) (Or.inl ⟨by rfl, ?_⟩) ?_ ?_
                 rotate_left
                 ·intro w'
                  go_simp
                  with_reducible rfl
                 rotate_left
                 ·simp only [Act.put, List.setIfInBounds_toArray, List.set_cons_zero, List.set_cons_succ, i64_w, i32_w]
                  rfl
                 refine pure_ (i := 2) (N := some 62) (v := ?_) (a' := ?_) #[true, false, true, false, false, false, false, false, false, false] rfl rfl (any_of HT_.out (by kernel_rfl)) (fun _ _ _ h => h) (Or.inl ⟨by rfl, ?_⟩) ?_ ?_
                 rotate_left
                 ·intro w'
                  go_simp
                  with_reducible rfl
                 rotate_left
                 ·simp only [Act.put, List.setIfInBounds_toArray, List.set_cons_zero, List.set_cons_succ, i64_w, i32_w]
                  rfl
                 refine pure_ (i := 3) (N := some 63) (v := ?_) (a' := ?_) #[true, false, true, true, false, false, false, false, false, false] rfl rfl (any_of HT_.out (by kernel_rfl)) (fun _ _ _ h => h) (Or.inl ⟨by rfl, ?_⟩) ?_ ?_
                 rotate_left
                 ·intro w'
                  go_simp
                  with_reducible rfl
                 rotate_left
                 ·simp only [Act.put, List.setIfInBounds_toArray, List.set_cons_zero, List.set_cons_succ, i64_w, i32_w]
                  rfl
                 refine pure_ (i := 4) (N := some 64) (v := ?_) (a' := ?_) #[true, false, true, true, true, false, false, false, false, false] rfl rfl (any_of HT_.out (by kernel_rfl)) (fun _ _ _ h => h) (Or.inl ⟨by rfl, ?_⟩) ?_ ?_
                 rotate_left
                 ·intro w'
                  go_simp
                  with_reducible rfl
                 rotate_left
                 ·simp only [Act.put, List.setIfInBounds_toArray, List.set_cons_zero, List.set_cons_succ, i64_w, i32_w]
                  rfl
                 refine take_ (i := 1) (N := some 61) (v := ?_) (a' := ?_) #[true, true, true, true, true, false, false, false, false, false] rfl rfl (take_ofW HT_.out HW_.out (by kernel_rfl)) (fun _ _ _ h => h) (Or.inl ⟨by rfl, ?_⟩) hHeld ?_ ?_
                 rotate_left
                 ·rintro w' ⟨s0, s1, s2, s3, s4⟩
                  go_simp
                  with_reducible rfl
                 rotate_left
                 ·simp only [Act.put, List.setIfInBounds_toArray, List.set_cons_zero, List.set_cons_succ, i64_w, i32_w]
                  rfl
                 refine take_ (i := 5) (N := some 65) (v := ?_) (a' := ?_) #[true, true, true, true, true, true, false, false, false, false] rfl rfl (take_ofW HT_.out HW_.out (by kernel_rfl)) (fun _ _ _ h => h) (Or.inl ⟨by rfl, ?_⟩) hHeld ?_ ?_
                 rotate_left
                 ·rintro w' ⟨s0, s1, s2, s3, s4⟩
                  go_simp
                  with_reducible rfl
                 rotate_left
                 ·simp only [Act.put, List.setIfInBounds_toArray, List.set_cons_zero, List.set_cons_succ, i64_w, i32_w]
                  rfl
                 refine one_ (i := 6) (N := some 66) #[true, true, true, true, true, true, true, false, false, false] rfl rfl (one_of HT_.out (by kernel_rfl)) (by decide) (fun K hK => ?_)
                 refine goes_ Tryz.func112 (by kernel_rfl) rfl #[.agg #[.int .i64 ((rd_T61 (rd_L3 l1 x8_1) (ji12)).f0), .int .i64 (wrap64 (((rd_T61 (rd_L3 l1 x8_1) (ji12)).f1) + (wrap64 (Int.tdiv x10_3 ((rd_L3 l1 x8_1).length : Int))))), .string ((rd_T61 (rd_L3 l1 x8_1) (ji12)).f2)], .agg #[.int .i64 ((rd_T88 l0 x10_3).f0), .bool ((rd_T88 l0 x10_3).f1)]] (by rfl) rfl rfl (by (try simp only [List.map_toArray, List.map_cons, List.map_nil]); first | done | (simp only [hji12]; rfl) | rfl | (simp only [List.length_drop, List.length_take]; rfl)) ?_
                 with_reducible refine (tacticianref01_TameAs.calls k3 ((rd_T61 (rd_L3 l1 x8_1) (ji12)).f0) (wrap64 (((rd_T61 (rd_L3 l1 x8_1) (ji12)).f1) + (wrap64 (Int.tdiv x10_3 ((rd_L3 l1 x8_1).length : Int))))) ((rd_T61 (rd_L3 l1 x8_1) (ji12)).f2) ((rd_T88 l0 x10_3).f0) ((rd_T88 l0 x10_3).f1) t558 t559 t560 _ A16.out).mono ?_
                 rintro e w30 ⟨rfl, hb⟩
                 refine ⟨_, rfl, ?_⟩
                 have n0_ := Aside0.mk (Kd.S_below (by (with_reducible repeat (first | apply Kd.S_alloc | apply Kd.S_drewN | apply Kd.S_drew)); exact HO_7.out) hb)
                 have n1_ := Aside0.mk (Kd.R_below (by (with_reducible repeat (first | apply Kd.R_alloc | apply Kd.R_drewN | apply Kd.R_drew)); exact HO_9.out) hb)
                 have n2_ := Aside0.mk (blk_below (g := gb551) (o := .cells #[.int .i64 ((rd_T61 (rd_L3 l1 x8_1) (ji12)).f0), .int .i64 (wrap64 (((rd_T61 (rd_L3 l1 x8_1) (ji12)).f1) + (wrap64 (Int.tdiv x10_3 ((rd_L3 l1 x8_1).length : Int))))), .string ((rd_T61 (rd_L3 l1 x8_1) (ji12)).f2)] 61 (0, 0)) (by (with_reducible repeat (first | refine zN ?_ _ | refine zD ?_ | refine zA ?_ _)); exact BK551.out) hb)
                 have n3_ := Aside0.mk (below_step (by repeat (first | (with_reducible first | exact HB.out | apply yA | apply yN | apply yD | refine below_set ?_ GE551.out) | exact HB.out)) hb)
                 clear HO_7
                 clear HO_9
                 clear BK551
                 clear HB
                 have HO_7 := n0_
                 have HO_9 := n1_
                 have BK551 := n2_
                 have HB := n3_
                 clear n0_ n1_ n2_ n3_
                 (try clear hb)
                 (try clear hb2)
                 (try clear hk)
                 (try clear hi)
                 refine hK.out _ _ ⟨(blk_cell BK551.out 0).trans rfl, (blk_cell BK551.out 1).trans rfl, (blk_cell BK551.out 2).trans rfl, ((HB.out.cell (World.block_lt_of_cell? w _ hw557_0)).trans hw557_0), ((HB.out.cell (World.block_lt_of_cell? w _ hw557_1)).trans hw557_1)⟩ (fun hHeld => ?_)
                 clear hK K
                 refine norm_ (a' := ?_) ?_ ?_
                 rotate_left
                 ·show Act.put _ (some 66) _ = _
                  simp only [Act.put, List.setIfInBounds_toArray, List.set_cons_zero, List.set_cons_succ, i64_w, i32_w]
                  rfl
                 refine one_ (i := 7) (N := some 67) #[true, true, true, true, true, true, true, true, false, false] rfl rfl (one_of HT_.out (by kernel_rfl)) (by decide) (fun K hK => ?_)
                 refine value_ (w1 := ?_) (v := ?_) (by rfl) rfl ?_ ?_
                 rotate_left 2
                 ·go_simp
                  constructor
                  ·rfl
                  ·rfl
                 refine hK.out _ _ ⟨(blk_cell (blk_alloc BK551.out _) 0).trans rfl, (blk_cell (blk_alloc BK551.out _) 1).trans rfl, (blk_cell (blk_alloc BK551.out _) 2).trans rfl, (World.cell?_alloc_lt _ _ _ (World.block_lt_of_cell? _ _ (((HB.out.cell (World.block_lt_of_cell? w _ hw557_0)).trans hw557_0)))).trans (((HB.out.cell (World.block_lt_of_cell? w _ hw557_0)).trans hw557_0)), (World.cell?_alloc_lt _ _ _ (World.block_lt_of_cell? _ _ (((HB.out.cell (World.block_lt_of_cell? w _ hw557_1)).trans hw557_1)))).trans (((HB.out.cell (World.block_lt_of_cell? w _ hw557_1)).trans hw557_1))⟩ (fun hHeld => ?_)
                 clear hK K
                 refine norm_ (a' := ?_) ?_ ?_
                 rotate_left
                 ·show Act.put _ (some 67) _ = _
                  simp only [Act.put, List.setIfInBounds_toArray, List.set_cons_zero, List.set_cons_succ, i64_w, i32_w]
                  rfl
                 refine one_ (i := 8) (N := some 68) #[true, true, true, true, true, true, true, true, true, false] rfl rfl (one_of HT_.out (by kernel_rfl)) (by decide) (fun K hK => ?_)
                 refine Kd.R_append_step k61 (w0 := w) w.heap.size (by rfl) (.tmp 60) (.tmp 67) 40 61 (.agg #[(.int .i64 0), (.int .i64 0), (.string ⟨#[]⟩)]) 32 rfl Tryz.underlying40 info61 rfl (by decide) (by omega) u9 x9_3 (⟨t558, t559, t560⟩ : S61) [.int .i64 t558, .int .i64 t559, .string t560] (fun k_ => k_ ≠ gb551) (fun _ => False) rfl rfl ?aP (fun _ hk => hk.elim) ?aF ?aO ?aB ?aS ?aL ?_
                 (case aP => exact k61_mkM _ _ _ (⟨t558, t559, t560⟩ : S61))
                 (case aB => exact (by repeat (first | (with_reducible first | exact HB.out | apply yA | apply yN | apply yD | refine below_set ?_ GE551.out) | exact HB.out)))
                 (case aF => exact (fun k_ hk => Kd.freshB (g := gb551) (o := .cells #[.int .i64 ((rd_T61 (rd_L3 l1 x8_1) (ji12)).f0), .int .i64 (wrap64 (((rd_T61 (rd_L3 l1 x8_1) (ji12)).f1) + (wrap64 (Int.tdiv x10_3 ((rd_L3 l1 x8_1).length : Int))))), .string ((rd_T61 (rd_L3 l1 x8_1) (ji12)).f2)] 61 (0, 0)) (by (with_reducible repeat (first | refine zN ?_ _ | refine zD ?_ | refine zA ?_ _)); exact BK551.out) k_ hk))
                 (case aO => exact (by (with_reducible repeat (first | apply Kd.R_alloc | apply Kd.R_drewN | apply Kd.R_drew)); exact HO_9.out))
                 (case aS => exact (below_size (by repeat (first | (with_reducible first | exact HB.out | apply yA | apply yN | apply yD | refine below_set ?_ GE551.out) | exact HB.out))))
                 (case aL => have := LMc17.out; omega)
                 intro v562 w31 ho hb hg hat
                 rw [← Ny561.out] at ho
                 have n0_ := Aside0.mk (Kd.S_after (ok := (fun k_ => k_ ≠ gb551)) (by (with_reducible repeat (first | apply Kd.S_alloc | apply Kd.S_drewN | apply Kd.S_drew)); exact Kd.S_mono HO_7.out (fun _ hk => ⟨hk.2, hk.1⟩)) hg hat)
                 have n1_ := Aside0.mk (blk_grown (g := gb551) (o := .cells #[.int .i64 ((rd_T61 (rd_L3 l1 x8_1) (ji12)).f0), .int .i64 (wrap64 (((rd_T61 (rd_L3 l1 x8_1) (ji12)).f1) + (wrap64 (Int.tdiv x10_3 ((rd_L3 l1 x8_1).length : Int))))), .string ((rd_T61 (rd_L3 l1 x8_1) (ji12)).f2)] 61 (0, 0)) (by (with_reducible repeat (first | refine zN ?_ _ | refine zD ?_ | refine zA ?_ _)); exact BK551.out) hg (Kd.R_away HO_9.out (fun _ hk => hk)))
                 have n2_ := Aside0.mk (hb)
                 have n3_ := Aside0.mk (ho)
                 clear HO_7
                 clear BK551
                 clear HB
                 clear HO_9
                 have HO_7 := n0_
                 have BK551 := n1_
                 have HB := n2_
                 have HO563 := n3_
                 clear n0_ n1_ n2_ n3_
                 clear ho hb hg hat
                 refine hK.out _ _ ⟨(blk_cell BK551.out 0).trans rfl, (blk_cell BK551.out 1).trans rfl, (blk_cell BK551.out 2).trans rfl, ((HB.out.cell (World.block_lt_of_cell? w _ hw557_0)).trans hw557_0), ((HB.out.cell (World.block_lt_of_cell? w _ hw557_1)).trans hw557_1)⟩ (fun hHeld => ?_)
                 clear hK K
                 refine norm_ (a' := ?_) ?_ ?_
                 rotate_left
                 ·show Act.put _ (some 68) _ = _
                  simp only [Act.put, List.setIfInBounds_toArray, List.set_cons_zero, List.set_cons_succ, i64_w, i32_w]
                  rfl
                 refine pure_ (i := 9) (N := some 9) (v := ?_) (a' := ?_) #[true, true, true, true, true, true, true, true, true, true] rfl rfl (any_of HT_.out (by kernel_rfl)) (fun _ _ _ h => h) (Or.inl ⟨by rfl, ?_⟩) ?_ ?_
                 rotate_left
                 ·intro w'
                  go_simp
                  with_reducible rfl
                 rotate_left
                 ·simp only [Act.put, List.setIfInBounds_toArray, List.set_cons_zero, List.set_cons_succ, i64_w, i32_w]
                  rfl
                 refine done_ (done_of HT_.out (by kernel_rfl)) ?_
                 try go_wp2
                 go_roundg k3
                 case measure => have := HK1.out; have := HJ3.out; have := HK3.out; omega
                 case rel => exact ⟨(y561), (wrap64 (x10_3 + 1)), (by first | rfl | (simp; done) | (simp [*]; done)), H', ⟨by have := HK1.out; have := HJ3.out; have := HK3.out; omega⟩, ⟨by (with_reducible repeat (first | apply Kd.S_alloc | apply Kd.S_drewN | apply Kd.S_drew)); exact Kd.S_mono HO_7.out (fun _ hk => hk.2)⟩, ⟨by (with_reducible repeat (first | apply Kd.R_alloc | apply Kd.R_drewN | apply Kd.R_drew)); exact Kd.R_mono HO563.out (fun _ hk => trivial)⟩, ⟨by repeat (first | (with_reducible first | exact HB.out | apply yA | apply yN | apply yD | refine below_set ?_ GE551.out) | exact HB.out)⟩⟩
                ·rw [if_neg c17] at H
                 exact absurd H (by simp)
               ·rw [if_neg c15] at H
                exact absurd H (by simp)
              ·rw [if_neg c14] at H
               exact absurd H (by simp)
             ·rw [if_neg c13] at H
              exact absurd H (by simp)
           ·rw [if_neg c10] at H
            have c10b0 : decide (0 < ((rd_L3 l1 x8_1).length : Int)) = false := decide_eq_false c10
            have c10b1 : decide (0 < (rd_L3 l1 x8_1).length) = false := decide_eq_false (by omega)
            clear c10
            by_cases c32 : 0 ≤ x10_3
            ·rw [if_pos c32] at H
             have c32b0 : decide (0 ≤ x10_3) = true := decide_eq_true c32
             clear c32
             replace H := Option.bind_eq_some_iff.mp H
             obtain ⟨⟨t565, t566, t567⟩, A330, H⟩ := H
             replace H : (if x9_3.length < 4398046511104 then (tacticianref02_TameRows.l1 k3 l0 l1 a2 x7_1 x8_1 (x9_3 ++ [(⟨t565, t566, t567⟩ : S61)]) (wrap64 (x10_3 + 1))) else (none)) = some r := H
             have A33 := Aside0.mk A330
             clear A330
             by_cases c34 : x9_3.length < 4398046511104
             ·rw [if_pos c34] at H
              have LMc34 := Aside0.mk c34
              clear c34
              obtain ⟨y568, hy568⟩ : ∃ y_ : List (S61), y_ = (x9_3 ++ [(⟨t565, t566, t567⟩ : S61)]) := ⟨_, rfl⟩
              replace H : (tacticianref02_TameRows.l1 k3 l0 l1 a2 x7_1 x8_1 y568 (wrap64 (x10_3 + 1))) = some r := by first | (rw [hy568]; with_reducible exact H) | (have H2_ := (Option.bind_some _ _).symm.trans H; rw [hy568]; with_reducible exact H2_) | (have H2_ := (Option.bind_some _ _).symm.trans H; with_reducible exact H2_) | with_reducible exact H | (rw [hy568]; exact H) | exact H
              have Ny568 := Aside0.mk hy568
              clear hy568
              have H' := Aside0.mk H
              clear H
              try go_wp2_with (first | ((with_reducible refine gate_dst (N := 11) rfl ?_); refine box_event ?hg (N := 11) ?hd (cs := #[.int .i64 0, .int .i64 0, .string (⟨#[]⟩ : ByteArray)]) (t := 61) ?hr ?_; (case hd => rfl); (case hg => rfl); (case hr => first | (go_simp; done) | (go_simp; rfl)); intro gb551 hg w35 hbox hb; have n0_ := Aside0.mk (Kd.S_below (Kd.S_elderB (by (with_reducible repeat (first | apply Kd.S_alloc | apply Kd.S_drewN | apply Kd.S_drew)); exact HO_7.out) gb551 (Nat.le_of_eq hg.symm)) hb); have n1_ := Aside0.mk (Kd.R_below (Kd.R_elderB (by (with_reducible repeat (first | apply Kd.R_alloc | apply Kd.R_drewN | apply Kd.R_drew)); exact HO_9.out) gb551 (Nat.le_of_eq hg.symm)) hb); have n2_ := Aside0.mk (below_step (by repeat (first | (with_reducible first | exact HB.out | apply yA | apply yN | apply yD) | exact HB.out)) hb); have n3_ := Aside0.mk (hbox); have n4_ := Aside0.mk ((by rw [hg]; exact (below_size (by repeat (first | (with_reducible first | exact HB.out | apply yA | apply yN | apply yD) | exact HB.out))) : w.heap.size ≤ gb551)); have n5_ := Aside0.mk ((by rw [hg]; exact (below_size (by repeat (first | (with_reducible first | exact HB.out | apply yA | apply yN | apply yD) | exact HB.out))) : w.heap.size ≤ gb551)); clear HO_7; clear HO_9; clear HB; have HO_7 := n0_; have HO_9 := n1_; have HB := n2_; have BK551 := n3_; have GW551 := n4_; have GE551 := n5_; clear n0_ n1_ n2_ n3_ n4_ n5_; clear hb hbox hg; have hcz36_0 : w35.cell? ⟨gb551, 0, none⟩ = some (.int .i64 0) := (blk_cell BK551.out 0).trans rfl; have hcz36_1 : w35.cell? ⟨gb551, 1, none⟩ = some (.int .i64 0) := (blk_cell BK551.out 1).trans rfl; have hcz36_2 : w35.cell? ⟨gb551, 2, none⟩ = some (.string (⟨#[]⟩ : ByteArray)) := (blk_cell BK551.out 2).trans rfl; have hfz36_0 := blk_frozen BK551.out 0; have hfz36_1 := blk_frozen BK551.out 1; have hfz36_2 := blk_frozen BK551.out 2; have p552 : 0 ≤ (x8_1 : Int) := of_decide_eq_true (by first | (with_reducible assumption) | assumption); have q552 : x8_1 < (l1.length : Int) := of_decide_eq_true (by first | (with_reducible assumption) | assumption); obtain ⟨ad552, A552_0, c552_0, e552, hx552_0, hl552_0, hi552_0⟩ := at_L3 HR1.out x8_1 p552 q552; cases e552; have hn552_0 : ad552.block ≠ gb551 := Nat.ne_of_lt (Nat.lt_of_lt_of_le (by have := World.block_lt_of_cell? _ _ hx552_0; first | rwa [add_block] at this | exact this) GW551.out); have hn552_1 : ad552.block ≠ gb551 := Nat.ne_of_lt (Nat.lt_of_lt_of_le (by have := World.block_lt_of_cell? _ _ hx552_0; first | rwa [add_block] at this | exact this) GW551.out); have hn552_2 : ad552.block ≠ gb551 := Nat.ne_of_lt (Nat.lt_of_lt_of_le (by have := World.block_lt_of_cell? _ _ hx552_0; first | rwa [add_block] at this | exact this) GW551.out); replace hx552_0 := (HB.out.cell (World.block_lt_of_cell? w _ hx552_0)).trans hx552_0; have HR552_0 := Aside0.mk hi552_0; have HC552_0 := Aside0.mk hl552_0; clear hi552_0 hl552_0; replace hx552_0 := (cell_far (p := ⟨gb551, 0, none⟩) (by first | (rw [add_block]; exact hn552_0) | (show (Addr.add _ _).block ≠ _; rw [add_block]; exact hn552_0) | exact hn552_0) (.int .i64 0)).trans hx552_0; replace hx552_0 := (cell_far (p := ⟨gb551, 1, none⟩) (by first | (rw [add_block]; exact hn552_1) | (show (Addr.add _ _).block ≠ _; rw [add_block]; exact hn552_1) | exact hn552_1) (.int .i64 0)).trans hx552_0; replace hx552_0 := (cell_far (p := ⟨gb551, 2, none⟩) (by first | (rw [add_block]; exact hn552_2) | (show (Addr.add _ _).block ≠ _; rw [add_block]; exact hn552_2) | exact hn552_2) (.string (⟨#[]⟩ : ByteArray))).trans hx552_0; clear hn552_0; clear hn552_1; clear hn552_2; replace p552 := eq_true p552; replace q552 := eq_true q552))
              have n0_ : Aside0 (Kd.S (Kd.slice 61 k61) 40 (((w35.setCell ⟨gb551, 0, none⟩ (.int .i64 0)).setCell ⟨gb551, 1, none⟩ (.int .i64 0)).setCell ⟨gb551, 2, none⟩ (.string (⟨#[]⟩ : ByteArray))) w.heap.size (fun k_ => some k_ ≠ (u9 : Value).ownBlock ∧ k_ ≠ gb551) u7 x7_1) := ⟨by (with_reducible repeat (first | apply Kd.S_alloc | apply Kd.S_drewN | apply Kd.S_drew)); exact Kd.S_mono (Kd.S_far (p := ⟨gb551, 2, none⟩) (Kd.S_far (p := ⟨gb551, 1, none⟩) (Kd.S_far (p := ⟨gb551, 0, none⟩) (Kd.S_mono HO_7.out (fun k_ hk => (⟨hk, hk.2⟩ : _ ∧ k_ ≠ gb551))) (fun _ hk => hk.2) (.int .i64 0)) (fun _ hk => hk.2) (.int .i64 0)) (fun _ hk => hk.2) (.string (⟨#[]⟩ : ByteArray))) (fun _ hk => ⟨hk.1.1, hk.1.2⟩)⟩
              have n1_ : Aside0 (Kd.R k61 61 (((w35.setCell ⟨gb551, 0, none⟩ (.int .i64 0)).setCell ⟨gb551, 1, none⟩ (.int .i64 0)).setCell ⟨gb551, 2, none⟩ (.string (⟨#[]⟩ : ByteArray))) w.heap.size (fun k_ => k_ ≠ gb551) u9 x9_3) := ⟨by (with_reducible repeat (first | apply Kd.R_alloc | apply Kd.R_drewN | apply Kd.R_drew)); exact Kd.R_mono (Kd.R_far (p := ⟨gb551, 2, none⟩) (Kd.R_far (p := ⟨gb551, 1, none⟩) (Kd.R_far (p := ⟨gb551, 0, none⟩) (Kd.R_mono HO_9.out (fun k_ hk => (⟨hk, hk.2⟩ : _ ∧ k_ ≠ gb551))) (fun _ hk => hk.2) (.int .i64 0)) (fun _ hk => hk.2) (.int .i64 0)) (fun _ hk => hk.2) (.string (⟨#[]⟩ : ByteArray))) (fun _ hk => hk.1.2)⟩
              have n2_ : Aside0 ((((w35.setCell ⟨gb551, 0, none⟩ (.int .i64 0)).setCell ⟨gb551, 1, none⟩ (.int .i64 0)).setCell ⟨gb551, 2, none⟩ (.string (⟨#[]⟩ : ByteArray))).heap[gb551]? = some (.cells #[.int .i64 0, .int .i64 0, .string (⟨#[]⟩ : ByteArray)] 61 (0, 0))) := ⟨by (with_reducible repeat (first | refine zN ?_ _ | refine zD ?_ | refine zA ?_ _)); refine blk_put (cs := #[.int .i64 0, .int .i64 0, .string (⟨#[]⟩ : ByteArray)]) ?_ 2 _ rfl; (with_reducible repeat (first | refine zN ?_ _ | refine zD ?_ | refine zA ?_ _)); refine blk_put (cs := #[.int .i64 0, .int .i64 0, .string (⟨#[]⟩ : ByteArray)]) ?_ 1 _ rfl; (with_reducible repeat (first | refine zN ?_ _ | refine zD ?_ | refine zA ?_ _)); refine blk_put (cs := #[.int .i64 0, .int .i64 0, .string (⟨#[]⟩ : ByteArray)]) ?_ 0 _ rfl; (with_reducible repeat (first | refine zN ?_ _ | refine zD ?_ | refine zA ?_ _)); exact BK551.out⟩
              have n3_ : Aside0 (Below w.heap.size w (((w35.setCell ⟨gb551, 0, none⟩ (.int .i64 0)).setCell ⟨gb551, 1, none⟩ (.int .i64 0)).setCell ⟨gb551, 2, none⟩ (.string (⟨#[]⟩ : ByteArray)))) := ⟨by repeat (first | (with_reducible first | exact HB.out | apply yA | apply yN | apply yD | refine below_set ?_ GE551.out) | exact HB.out)⟩
              (try clear HO_7)
              (try clear HO_9)
              (try clear BK551)
              (try clear HB)
              generalize (((w35.setCell ⟨gb551, 0, none⟩ (.int .i64 0)).setCell ⟨gb551, 1, none⟩ (.int .i64 0)).setCell ⟨gb551, 2, none⟩ (.string (⟨#[]⟩ : ByteArray))) = w37 at n0_ n1_ n2_ n3_ ⊢
              have HO_7 := n0_
              have HO_9 := n1_
              have BK551 := n2_
              have HB := n3_
              clear n0_ n1_ n2_ n3_
              have n0_ := Aside0.mk (Kd.S_drew HO_7.out)
              have n1_ := Aside0.mk (Kd.R_drew HO_9.out)
              have n2_ := Aside0.mk (blk_drew BK551.out)
              have n3_ := Aside0.mk (below_drew1 HB.out)
              clear HO_7
              clear HO_9
              clear BK551
              clear HB
              have HO_7 := n0_
              have HO_9 := n1_
              have BK551 := n2_
              have HB := n3_
              clear n0_ n1_ n2_ n3_
              have p564 : 0 ≤ (x10_3 : Int) := of_decide_eq_true (by first | (with_reducible assumption) | assumption)
              have q564 : x10_3 < (l0.length : Int) := of_decide_eq_true (by first | (with_reducible assumption) | assumption)
              obtain ⟨ad564, e564, hx564_0, hx564_1⟩ := at_T88 HR0.out x10_3 p564 q564
              have hw564_1 := hx564_1
              have hw564_0 := hx564_0
              cases e564
              replace hx564_0 := (HB.out.cell (World.block_lt_of_cell? w _ hx564_0)).trans hx564_0
              replace hx564_1 := (HB.out.cell (World.block_lt_of_cell? w _ hx564_1)).trans hx564_1
              replace p564 := eq_true p564
              replace q564 := eq_true q564
              refine start_ (n := 10) (S := fun w' => w'.cell? ⟨gb551, 0, none⟩ = some (.int .i64 0) ∧ w'.cell? ⟨gb551, 1, none⟩ = some (.int .i64 0) ∧ w'.cell? ⟨gb551, 2, none⟩ = some (.string (⟨#[]⟩ : ByteArray)) ∧ w'.cell? (ad564.add ((x10_3).toNat * 2)) = some (.int .i64 ((rd_T88 l0 x10_3).f0)) ∧ w'.cell? ⟨(ad564.add ((x10_3).toNat * 2)).block, (ad564.add ((x10_3).toNat * 2)).off + 1, none⟩ = some (.bool ((rd_T88 l0 x10_3).f1))) (ds := []) #[false, false, false, false, false, false, false, false, false, false] (by kernel_rfl) rfl rfl ⟨(blk_cell BK551.out 0).trans rfl, (blk_cell BK551.out 1).trans rfl, (blk_cell BK551.out 2).trans rfl, ((HB.out.cell (World.block_lt_of_cell? w _ hw564_0)).trans hw564_0), ((HB.out.cell (World.block_lt_of_cell? w _ hw564_1)).trans hw564_1)⟩ (fun hHeld => ?_); refine with_tabW tacticianref02_TameRows.tab13 tacticianref02_TameRows.bits13 (fun HT_ HW_ => ?_)
              generalize w37.drew = w38 at HO_7 HO_9 BK551 HB hx564_0 hx564_1 hHeld ⊢
              refine pure_ (i := 0) (N := some 60) (v := ?_) (a' := ?_) #[true, false, false, false, false, false, false, false, false, false] rfl rfl (any_of HT_.out (by kernel_rfl)) (fun _ _ _ h => h) (Or.inl ⟨by rfl, ?_⟩) ?_ ?_
              rotate_left
              ·intro w'
               go_simp
               with_reducible rfl
              rotate_left
              ·simp only [Act.put, List.setIfInBounds_toArray, List.set_cons_zero, List.set_cons_succ, i64_w, i32_w]
               rfl
              refine pure_ (i := 2) (N := some 62) (v := ?_) (a' := ?_) #[true, false, true, false, false, false, false, false, false, false] rfl rfl (any_of HT_.out (by kernel_rfl)) (fun _ _ _ h => h) (Or.inl ⟨by rfl, ?_⟩) ?_ ?_
              rotate_left
              ·intro w'
               go_simp
               with_reducible rfl
              rotate_left
              ·simp only [Act.put, List.setIfInBounds_toArray, List.set_cons_zero, List.set_cons_succ, i64_w, i32_w]
               rfl
              refine pure_ (i := 3) (N := some 63) (v := ?_) (a' := ?_) #[true, false, true, true, false, false, false, false, false, false] rfl rfl (any_of HT_.out (by kernel_rfl)) (fun _ _ _ h => h) (Or.inl ⟨by rfl, ?_⟩) ?_ ?_
              rotate_left
              ·intro w'
               go_simp
               with_reducible rfl
              rotate_left
              ·simp only [Act.put, List.setIfInBounds_toArray, List.set_cons_zero, List.set_cons_succ, i64_w, i32_w]
               rfl
              refine pure_ (i := 4) (N := some 64) (v := ?_) (a' := ?_) #[true, false, true, true, true, false, false, false, false, false] rfl rfl (any_of HT_.out (by kernel_rfl)) (fun _ _ _ h => h) (Or.inl ⟨by rfl, ?_⟩) ?_ ?_
              rotate_left
              ·intro w'
               go_simp
               with_reducible rfl
              rotate_left
              ·simp only [Act.put, List.setIfInBounds_toArray, List.set_cons_zero, List.set_cons_succ, i64_w, i32_w]
               rfl
              refine take_ (i := 1) (N := some 61) (v := ?_) (a' := ?_) #[true, true, true, true, true, false, false, false, false, false] rfl rfl (take_ofW HT_.out HW_.out (by kernel_rfl)) (fun _ _ _ h => h) (Or.inl ⟨by rfl, ?_⟩) hHeld ?_ ?_
              rotate_left
              ·rintro w' ⟨s0, s1, s2, s3, s4⟩
               go_simp
               with_reducible rfl
              rotate_left
              ·simp only [Act.put, List.setIfInBounds_toArray, List.set_cons_zero, List.set_cons_succ, i64_w, i32_w]
               rfl
              refine take_ (i := 5) (N := some 65) (v := ?_) (a' := ?_) #[true, true, true, true, true, true, false, false, false, false] rfl rfl (take_ofW HT_.out HW_.out (by kernel_rfl)) (fun _ _ _ h => h) (Or.inl ⟨by rfl, ?_⟩) hHeld ?_ ?_
              rotate_left
              ·rintro w' ⟨s0, s1, s2, s3, s4⟩
               go_simp
               with_reducible rfl
              rotate_left
              ·simp only [Act.put, List.setIfInBounds_toArray, List.set_cons_zero, List.set_cons_succ, i64_w, i32_w]
               rfl
              refine one_ (i := 6) (N := some 66) #[true, true, true, true, true, true, true, false, false, false] rfl rfl (one_of HT_.out (by kernel_rfl)) (by decide) (fun K hK => ?_)
              refine goes_ Tryz.func112 (by kernel_rfl) rfl #[.agg #[.int .i64 0, .int .i64 0, .string (⟨#[]⟩ : ByteArray)], .agg #[.int .i64 ((rd_T88 l0 x10_3).f0), .bool ((rd_T88 l0 x10_3).f1)]] (by rfl) rfl rfl (by (try simp only [List.map_toArray, List.map_cons, List.map_nil]); first | done | rfl | (simp only [List.length_drop, List.length_take]; rfl)) ?_
              with_reducible refine (tacticianref01_TameAs.calls k3 0 0 (⟨#[]⟩ : ByteArray) ((rd_T88 l0 x10_3).f0) ((rd_T88 l0 x10_3).f1) t565 t566 t567 _ A33.out).mono ?_
              rintro e w39 ⟨rfl, hb⟩
              refine ⟨_, rfl, ?_⟩
              have n0_ := Aside0.mk (Kd.S_below (by (with_reducible repeat (first | apply Kd.S_alloc | apply Kd.S_drewN | apply Kd.S_drew)); exact HO_7.out) hb)
              have n1_ := Aside0.mk (Kd.R_below (by (with_reducible repeat (first | apply Kd.R_alloc | apply Kd.R_drewN | apply Kd.R_drew)); exact HO_9.out) hb)
              have n2_ := Aside0.mk (blk_below (g := gb551) (o := .cells #[.int .i64 0, .int .i64 0, .string (⟨#[]⟩ : ByteArray)] 61 (0, 0)) (by (with_reducible repeat (first | refine zN ?_ _ | refine zD ?_ | refine zA ?_ _)); exact BK551.out) hb)
              have n3_ := Aside0.mk (below_step (by repeat (first | (with_reducible first | exact HB.out | apply yA | apply yN | apply yD | refine below_set ?_ GE551.out) | exact HB.out)) hb)
              clear HO_7
              clear HO_9
              clear BK551
              clear HB
              have HO_7 := n0_
              have HO_9 := n1_
              have BK551 := n2_
              have HB := n3_
              clear n0_ n1_ n2_ n3_
              (try clear hb)
              (try clear hb2)
              (try clear hk)
              (try clear hi)
              refine hK.out _ _ ⟨(blk_cell BK551.out 0).trans rfl, (blk_cell BK551.out 1).trans rfl, (blk_cell BK551.out 2).trans rfl, ((HB.out.cell (World.block_lt_of_cell? w _ hw564_0)).trans hw564_0), ((HB.out.cell (World.block_lt_of_cell? w _ hw564_1)).trans hw564_1)⟩ (fun hHeld => ?_)
              clear hK K
              refine norm_ (a' := ?_) ?_ ?_
              rotate_left
              ·show Act.put _ (some 66) _ = _
               simp only [Act.put, List.setIfInBounds_toArray, List.set_cons_zero, List.set_cons_succ, i64_w, i32_w]
               rfl
              refine one_ (i := 7) (N := some 67) #[true, true, true, true, true, true, true, true, false, false] rfl rfl (one_of HT_.out (by kernel_rfl)) (by decide) (fun K hK => ?_)
              refine value_ (w1 := ?_) (v := ?_) (by rfl) rfl ?_ ?_
              rotate_left 2
              ·go_simp
               constructor
               ·rfl
               ·rfl
              refine hK.out _ _ ⟨(blk_cell (blk_alloc BK551.out _) 0).trans rfl, (blk_cell (blk_alloc BK551.out _) 1).trans rfl, (blk_cell (blk_alloc BK551.out _) 2).trans rfl, (World.cell?_alloc_lt _ _ _ (World.block_lt_of_cell? _ _ (((HB.out.cell (World.block_lt_of_cell? w _ hw564_0)).trans hw564_0)))).trans (((HB.out.cell (World.block_lt_of_cell? w _ hw564_0)).trans hw564_0)), (World.cell?_alloc_lt _ _ _ (World.block_lt_of_cell? _ _ (((HB.out.cell (World.block_lt_of_cell? w _ hw564_1)).trans hw564_1)))).trans (((HB.out.cell (World.block_lt_of_cell? w _ hw564_1)).trans hw564_1))⟩ (fun hHeld => ?_)
              clear hK K
              refine norm_ (a' := ?_) ?_ ?_
              rotate_left
              ·show Act.put _ (some 67) _ = _
               simp only [Act.put, List.setIfInBounds_toArray, List.set_cons_zero, List.set_cons_succ, i64_w, i32_w]
               rfl
              refine one_ (i := 8) (N := some 68) #[true, true, true, true, true, true, true, true, true, false] rfl rfl (one_of HT_.out (by kernel_rfl)) (by decide) (fun K hK => ?_)
              refine Kd.R_append_step k61 (w0 := w) w.heap.size (by rfl) (.tmp 60) (.tmp 67) 40 61 (.agg #[(.int .i64 0), (.int .i64 0), (.string ⟨#[]⟩)]) 32 rfl Tryz.underlying40 info61 rfl (by decide) (by omega) u9 x9_3 (⟨t565, t566, t567⟩ : S61) [.int .i64 t565, .int .i64 t566, .string t567] (fun k_ => k_ ≠ gb551) (fun _ => False) rfl rfl ?aP (fun _ hk => hk.elim) ?aF ?aO ?aB ?aS ?aL ?_
              (case aP => exact k61_mkM _ _ _ (⟨t565, t566, t567⟩ : S61))
              (case aB => exact (by repeat (first | (with_reducible first | exact HB.out | apply yA | apply yN | apply yD | refine below_set ?_ GE551.out) | exact HB.out)))
              (case aF => exact (fun k_ hk => Kd.freshB (g := gb551) (o := .cells #[.int .i64 0, .int .i64 0, .string (⟨#[]⟩ : ByteArray)] 61 (0, 0)) (by (with_reducible repeat (first | refine zN ?_ _ | refine zD ?_ | refine zA ?_ _)); exact BK551.out) k_ hk))
              (case aO => exact (by (with_reducible repeat (first | apply Kd.R_alloc | apply Kd.R_drewN | apply Kd.R_drew)); exact HO_9.out))
              (case aS => exact (below_size (by repeat (first | (with_reducible first | exact HB.out | apply yA | apply yN | apply yD | refine below_set ?_ GE551.out) | exact HB.out))))
              (case aL => have := LMc34.out; omega)
              intro v569 w40 ho hb hg hat
              rw [← Ny568.out] at ho
              have n0_ := Aside0.mk (Kd.S_after (ok := (fun k_ => k_ ≠ gb551)) (by (with_reducible repeat (first | apply Kd.S_alloc | apply Kd.S_drewN | apply Kd.S_drew)); exact Kd.S_mono HO_7.out (fun _ hk => ⟨hk.2, hk.1⟩)) hg hat)
              have n1_ := Aside0.mk (blk_grown (g := gb551) (o := .cells #[.int .i64 0, .int .i64 0, .string (⟨#[]⟩ : ByteArray)] 61 (0, 0)) (by (with_reducible repeat (first | refine zN ?_ _ | refine zD ?_ | refine zA ?_ _)); exact BK551.out) hg (Kd.R_away HO_9.out (fun _ hk => hk)))
              have n2_ := Aside0.mk (hb)
              have n3_ := Aside0.mk (ho)
              clear HO_7
              clear BK551
              clear HB
              clear HO_9
              have HO_7 := n0_
              have BK551 := n1_
              have HB := n2_
              have HO570 := n3_
              clear n0_ n1_ n2_ n3_
              clear ho hb hg hat
              refine hK.out _ _ ⟨(blk_cell BK551.out 0).trans rfl, (blk_cell BK551.out 1).trans rfl, (blk_cell BK551.out 2).trans rfl, ((HB.out.cell (World.block_lt_of_cell? w _ hw564_0)).trans hw564_0), ((HB.out.cell (World.block_lt_of_cell? w _ hw564_1)).trans hw564_1)⟩ (fun hHeld => ?_)
              clear hK K
              refine norm_ (a' := ?_) ?_ ?_
              rotate_left
              ·show Act.put _ (some 68) _ = _
               simp only [Act.put, List.setIfInBounds_toArray, List.set_cons_zero, List.set_cons_succ, i64_w, i32_w]
               rfl
              refine pure_ (i := 9) (N := some 9) (v := ?_) (a' := ?_) #[true, true, true, true, true, true, true, true, true, true] rfl rfl (any_of HT_.out (by kernel_rfl)) (fun _ _ _ h => h) (Or.inl ⟨by rfl, ?_⟩) ?_ ?_
              rotate_left
              ·intro w'
               go_simp
               with_reducible rfl
              rotate_left
              ·simp only [Act.put, List.setIfInBounds_toArray, List.set_cons_zero, List.set_cons_succ, i64_w, i32_w]
               rfl
              refine done_ (done_of HT_.out (by kernel_rfl)) ?_
              try go_wp2
              go_roundg k3
              case measure => have := HK1.out; have := HJ3.out; have := HK3.out; omega
              case rel => exact ⟨(y568), (wrap64 (x10_3 + 1)), (by first | rfl | (simp; done) | (simp [*]; done)), H', ⟨by have := HK1.out; have := HJ3.out; have := HK3.out; omega⟩, ⟨by (with_reducible repeat (first | apply Kd.S_alloc | apply Kd.S_drewN | apply Kd.S_drew)); exact Kd.S_mono HO_7.out (fun _ hk => hk.2)⟩, ⟨by (with_reducible repeat (first | apply Kd.R_alloc | apply Kd.R_drewN | apply Kd.R_drew)); exact Kd.R_mono HO570.out (fun _ hk => trivial)⟩, ⟨by repeat (first | (with_reducible first | exact HB.out | apply yA | apply yN | apply yD | refine below_set ?_ GE551.out) | exact HB.out)⟩⟩
             ·rw [if_neg c34] at H
              exact absurd H (by simp)
            ·rw [if_neg c32] at H
             exact absurd H (by simp)
          ·rw [if_neg c9] at H
           exact absurd H (by simp)
         ·rw [if_neg c8] at H
          exact absurd H (by simp)
        ·rw [if_neg c7] at H
         have c7b0 : decide (x10_3 < (l0.length : Int)) = false := decide_eq_false c7
         clear c7
         by_cases c41 : x7_1.length < 5864062014805
         ·rw [if_pos c41] at H
          have LMc41 := Aside0.mk c41
          clear c41
          obtain ⟨y571, hy571⟩ : ∃ y_ : List (List (S61)), y_ = (x7_1 ++ [x9_3]) := ⟨_, rfl⟩
          replace H : (tacticianref02_TameRows.l0 k3 l0 l1 a2 y571 (wrap64 (x8_1 + 1))) = some r := by first | (rw [hy571]; with_reducible exact H) | (have H2_ := (Option.bind_some _ _).symm.trans H; rw [hy571]; with_reducible exact H2_) | (have H2_ := (Option.bind_some _ _).symm.trans H; with_reducible exact H2_) | with_reducible exact H | (rw [hy571]; exact H) | exact H
          have Ny571 := Aside0.mk hy571
          clear hy571
          have H' := Aside0.mk H
          clear H
          obtain ⟨Ao43, co43, eo43⟩ := Kd.R_slice HO_9.out
          subst eo43
          go_wp2_with (first | ((with_reducible refine gate_builtin (b := .append) (xs := #[.tmp 69, .tmp 71]) rfl ?_); at_builtin; refine Kd.S_append (Kd.slice 61 k61) (w0 := w) w.heap.size rfl (.tmp 69) (.tmp 71) 22 40 (.slice none 0 0) 24 rfl Tryz.underlying22 info40 rfl (by decide) (by omega) u7 x7_1 x9_3 [.slice Ao43 x9_3.length co43] (fun _ => True) (fun k_ => some k_ = (.slice Ao43 x9_3.length co43 : Value).ownBlock) rfl rfl ?aP (fun k_ hk_ => ((Kd.R_mono (ok' := fun k_ => ((fun _ => True)) k_ ∧ some k_ ≠ (u7 : Value).ownBlock) (Kd.R_apart' (HO_9.out) (Kd.S_typed HO_7.out) (by decide)) (fun k_ hk => ⟨trivial, hk.2⟩))).1 k_ hk_.symm) ?aF ?aO ?aB ?aS ?aL ?_; (case aP => exact Kd.M_row (Kd.R_mono (Kd.R_tight rfl (Kd.R_mono (ok' := fun k_ => ((fun _ => True)) k_ ∧ some k_ ≠ (u7 : Value).ownBlock) (Kd.R_apart' (HO_9.out) (Kd.S_typed HO_7.out) (by decide)) (fun k_ hk => ⟨trivial, hk.2⟩))) (fun _ h_ => h_))); (case aB => exact (by repeat (first | (with_reducible first | exact HB.out | apply yA | apply yN | apply yD) | exact HB.out))); (case aF => exact (fun _ _ => trivial)); (case aO => exact (by (with_reducible repeat (first | apply Kd.S_alloc | apply Kd.S_drewN | apply Kd.S_drew)); exact Kd.S_mono HO_7.out (fun k_ hk => ⟨trivial, fun e_ => hk e_⟩))); (case aS => exact (below_size (by repeat (first | (with_reducible first | exact HB.out | apply yA | apply yN | apply yD) | exact HB.out)))); (case aL => have := LMc41.out; omega); intro v572 w42 ho hb hg hat; rw [← Ny571.out] at ho; have n0_ := Aside0.mk (hb); have n1_ := Aside0.mk (ho); clear HB; clear HO_7; clear HO_9; have HB := n0_; have HO573 := n1_; clear n0_ n1_; clear ho hb hg hat))
          go_roundg k3
          case measure => have := HK1.out; have := HJ3.out; have := HK3.out; omega
          case rel => exact ⟨(y571), (wrap64 (x8_1 + 1)), (by first | rfl | (simp; done) | (simp [*]; done)), H', ⟨by have := HK1.out; have := HJ3.out; have := HK3.out; omega⟩, ⟨by (with_reducible repeat (first | apply Kd.S_alloc | apply Kd.S_drewN | apply Kd.S_drew)); exact HO573.out⟩, ⟨by repeat (first | (with_reducible first | exact HB.out | apply yA | apply yN | apply yD) | exact HB.out)⟩⟩
         ·rw [if_neg c41] at H
          exact absurd H (by simp)
     ·replace c6 := Bool.eq_false_iff.mpr c6
      subst c6
      have H1 : (some x7_1) = some r := by rw [if_neg (show ¬ (false = true) by decide)] at H; exact H
      clear H
      have H := H1
      clear H1
      obtain rfl := Option.some.inj H
      go_wp2
      go_ret
      exact ⟨_, by first | rfl | (simp [errW_none, errW_some] <;> rfl) | (simp [*, errW_none, errW_some] <;> rfl), by (with_reducible repeat (first | apply Kd.S_alloc | apply Kd.S_drewN | apply Kd.S_drew)); exact HO_7.out, by repeat (first | (with_reducible first | exact HB.out | apply yA | apply yN | apply yD) | exact HB.out)⟩
end Go.Proofs.YtmhobbdedmjmnaaGreatDoor.Q
end
section
/- Each function reached is shown to return what the plain function beside it computes, wherever that is defined (written by a program of ours for this seat). -/
namespace Go.Proofs.YtmhobbdedmjmnaaGreatDoor.Q
open Go.RowKit Go.Proofs.YtmhobbdedmjmnaaGreatDoorW.PrintWords Go.Proofs.YtmhobbdedmjmnaaGreatDoorW.PrintLast Go.Proofs.YtmhobbdedmjmnaaGreatDoorW.PrintMore
attribute [local go_sem] max2_int min2_int max_two min_two max_three min_three max_four min_four   -- for this text's walks alone
set_option linter.unusedVariables false
set_option linter.unusedSimpArgs false
def tacticianlaw02_some.f (k : Nat) (l0 : List (List (S61))) (a1 : Int) : Option ((List (List (S61)))) := (tacticianref02_TameRows.f k (([(⟨1, true⟩ : S88), (⟨3, false⟩ : S88), (⟨2, true⟩ : S88)] : List (S88))) l0 a1).bind fun t577 => (some t577)
set_option maxHeartbeats 8000000 in
set_option maxRecDepth 100000 in
theorem tacticianlaw02_some.calls (k : Nat) (A0 : Option Addr) (c0 : Nat) (l0 : List (List (S61))) (a1 : Int) (r : List (List (S61))) (w : World) (hr0 : Kd.C (Kd.slice 61 k61) w A0 l0.length l0) (hc0 : l0.length ≤ c0) (h : tacticianlaw02_some.f k l0 a1 = some r) :
  Calls Tryz.prog 38 #[.slice A0 l0.length c0, .int .i64 a1] w fun e w' => ∃ v0_ : Value, e = .returned (v0_) ∧ Kd.S (Kd.slice 61 k61) 40 w' w.heap.size (fun _ => True) v0_ r ∧ Below w.heap.size w w' := by
 have hu88 := Tryz.underlying88
 have HR0 := Aside0.mk hr0
 have HC0 := Aside0.mk hc0
 clear hr0 hc0
 have HB := Aside0.mk (Below.refl w.heap.size w)
 have H : ((tacticianref02_TameRows.f k (([(⟨1, true⟩ : S88), (⟨3, false⟩ : S88), (⟨2, true⟩ : S88)] : List (S88))) l0 a1).bind fun t577 => (some t577)) = some r := h
 clear h
 obtain ⟨y574, hy574⟩ : ∃ y_ : List (S88), y_ = (([(⟨1, true⟩ : S88), (⟨3, false⟩ : S88), (⟨2, true⟩ : S88)] : List (S88))) := ⟨_, rfl⟩
 replace H : ((tacticianref02_TameRows.f k y574 l0 a1).bind fun t577 => (some t577)) = some r := by first | (rw [hy574]; with_reducible exact H) | (have H2_ := (Option.bind_some _ _).symm.trans H; rw [hy574]; with_reducible exact H2_) | (have H2_ := (Option.bind_some _ _).symm.trans H; with_reducible exact H2_) | with_reducible exact H | (rw [hy574]; exact H) | exact H
 have Ny574 := Aside0.mk hy574
 clear hy574
 replace H := Option.bind_eq_some_iff.mp H
 obtain ⟨t577, A30, H⟩ := H
 replace H : (some t577) = some r := H
 have A3 := Aside0.mk A30
 clear A30
 obtain rfl := Option.some.inj H
 go_enter Tryz.func38, Tryz.ntmps38
 go_wp2_with (first | ((with_reducible refine gate_dst (N := 8) rfl ?_); refine Kd.R_lit k88 _ 88 ?hg (N := 8) ?hd (xs := ([(⟨1, true⟩ : S88), (⟨3, false⟩ : S88), (⟨2, true⟩ : S88)] : List (S88))) (inner := [.int .i64 1, .bool true, .int .i64 3, .bool false, .int .i64 2, .bool true]) (ok := fun _ => True) (okp := fun _ => True) ?hr ?hp (fun _ hk => hk) trivial (Below.refl _ _) (Nat.le_refl _) (by simp) ?_; (case hd => rfl); (case hg => rfl); (case hr => first | (go_simp; done) | (go_simp; rfl)); (case hp => exact (Reps.c2 (show Kd.M k88 _ _ _ (⟨1, true⟩ : S88) [.int .i64 1, .bool true] from (k88_mkM _ _ _ (⟨1, true⟩ : S88) )) (Reps.c2 (show Kd.M k88 _ _ _ (⟨3, false⟩ : S88) [.int .i64 3, .bool false] from (k88_mkM _ _ _ (⟨3, false⟩ : S88) )) (Reps.c2 (show Kd.M k88 _ _ _ (⟨2, true⟩ : S88) [.int .i64 2, .bool true] from (k88_mkM _ _ _ (⟨2, true⟩ : S88) )) (Reps.none _ _))))); intro v575 w4 ho5 hb hg_ hnew_; clear hg_ hnew_; (first | rw [← Ny574.out] at ho5 | (simp only [Int.reduceToNat] at ho5; rw [← Ny574.out] at ho5)); have n0_ := Aside0.mk (Kd.R_lower ho5 (below_size (by repeat (first | (with_reducible first | exact HB.out | apply yA | apply yN | apply yD) | exact HB.out)))); have n1_ := Aside0.mk (below_step (by repeat (first | (with_reducible first | exact HB.out | apply yA | apply yN | apply yD) | exact HB.out)) hb); clear HB; have HO576 := n0_; have HB := n1_; clear n0_ n1_; clear hb ho5; obtain ⟨Ao6, co6, eo6⟩ := Kd.R_slice HO576.out; subst eo6) | ((with_reducible refine gate_callee (f := 73) rfl ?_); refine goesL_ (some 11) rfl rfl Tryz.func73 (by kernel_rfl) rfl #[.slice Ao6 y574.length co6, .slice A0 l0.length c0, .int .i64 a1] rfl (by (try simp only [List.map_toArray, List.map_cons, List.map_nil]); first | done | rfl | (simp only [List.length_drop, List.length_take]; rfl)) ?_; (with_reducible refine (tacticianref02_TameRows.calls k _ _ y574 _ _ l0 a1 t577 _ ?side1 ?side2 ?side3 ?side4 A3.out).mono ?_); (case side1 => repeat (first | exact (Kd.R_reads' HO576.out).2.2 | (with_reducible refine Kd.C_alloc ?_ _) | (with_reducible refine Kd.C_drewN ?_ _) | (with_reducible refine Kd.C_drew ?_))); (case side2 => exact (Kd.R_reads' HO576.out).2.1); (case side3 => repeat (first | exact (Kd.C_below HR0.out HB.out) | (with_reducible refine Kd.C_alloc ?_ _) | (with_reducible refine Kd.C_drewN ?_ _) | (with_reducible refine Kd.C_drew ?_))); (case side4 => exact HC0.out); rintro e w7 ⟨v578, rfl, ho0, hb⟩; refine ⟨_, rfl, ?_⟩; have n0_ := Aside0.mk (Kd.R_below (by (with_reducible repeat (first | apply Kd.R_alloc | apply Kd.R_drewN | apply Kd.R_drew)); exact HO576.out) hb); have n1_ := Aside0.mk (Kd.S_lower ho0 (below_size (by repeat (first | (with_reducible first | exact HB.out | apply yA | apply yN | apply yD) | exact HB.out)))); have n2_ := Aside0.mk (below_step (by repeat (first | (with_reducible first | exact HB.out | apply yA | apply yN | apply yD) | exact HB.out)) hb); clear HO576; clear HB; have HO576 := n0_; have HO579 := n1_; have HB := n2_; clear n0_ n1_ n2_; (try clear hb); (try clear hb2); (try clear hk); (try clear hi); (try clear ho0)))
 go_ret
 exact ⟨_, by first | rfl | (simp [errW_none, errW_some] <;> rfl) | (simp [*, errW_none, errW_some] <;> rfl), by (with_reducible repeat (first | apply Kd.S_alloc | apply Kd.S_drewN | apply Kd.S_drew)); exact HO579.out, by repeat (first | (with_reducible first | exact HB.out | apply yA | apply yN | apply yD) | exact HB.out)⟩
end Go.Proofs.YtmhobbdedmjmnaaGreatDoor.Q
end
section
/- What the word some of the laws on rows answers: right rows of three columns; no program in sight. -/
namespace Go.Proofs.YtmhobbdedmjmnaaGreatDoor
open Go.RowKit Go.Proofs.YtmhobbdedmjmnaaGreatDoor.Q Go.Proofs.YtmhobbdedmjmnaaGreatDoorW.PrintWords Go.Proofs.YtmhobbdedmjmnaaGreatDoorW.PrintLast Go.Proofs.YtmhobbdedmjmnaaGreatDoorW.PrintMore
set_option linter.unusedSimpArgs false
set_option linter.unusedVariables false
/-- what is a value, in few bytes -/
def SmallV (a b : Int) (c : ByteArray) : Prop := okV a b c = true ∧ c.size ≤ 3
theorem inI64_wrap (n : Int) : inI64 (wrap64 n) = true := by
  refine inI64_mk ?_ ?_ <;> (unfold wrap64; omega)
theorem ab_one (m : Nat) (h : m < 3) : ((⟨#[97, 98, 39]⟩ : ByteArray).extract m (m + 1)).size = 1 ∧ prL ((⟨#[97, 98, 39]⟩ : ByteArray).extract m (m + 1)).data.toList = true := by
  match m, h with
  | 0, _ => decide
  | 1, _ => decide
  | 2, _ => decide
theorem tameAs_loop (t : ByteArray) (p q : Int) : ∀ (d i k : Nat) (acc : ByteArray), i + d = min t.size 3 → d < k → acc.size = i → prL acc.data.toList = true →
    ∃ c, tacticianref01_TameAs.l0 k acc (i : Int) p q t = some (3, 0, c) ∧ c.size ≤ 3 ∧ prL c.data.toList = true := by
  intro d
  induction d with
  | zero =>
    intro i k acc hi hk hs hp
    obtain ⟨k, rfl⟩ : ∃ m, k = m + 1 := ⟨k - 1, by omega⟩
    refine ⟨acc, ?_, by omega, hp⟩
    rw [tacticianref01_TameAs.l0]
    by_cases h : i < t.size
    · rw [if_pos (by omega), if_neg (by omega)]; rfl
    · rw [if_neg (by omega)]; rfl
  | succ d ih =>
    intro i k acc hi hk hs hp
    obtain ⟨k, rfl⟩ : ∃ m, k = m + 1 := ⟨k - 1, by omega⟩
    have hlt : i < t.size := by omega
    have hb := bt_get t i hlt
    generalize t.data.toList[i]'(by rw [Array.length_toList]; exact hlt) = c at hb
    have hm : Int.tmod (c.toNat : Int) 3 = ((c.toNat % 3 : Nat) : Int) := rfl
    have hm3 : c.toNat % 3 < 3 := Nat.mod_lt _ (by omega)
    obtain ⟨h1, h2⟩ := ab_one (c.toNat % 3) hm3
    have he : ((((c.toNat % 3 : Nat) : Int) + 1) % 256) = ((c.toNat % 3 + 1 : Nat) : Int) := by omega
    rw [tacticianref01_TameAs.l0, if_pos (by omega), if_pos (by omega), if_pos (by omega), hb, hm, he, if_pos (by omega), if_pos (by omega), if_pos (by omega), Int.toNat_natCast, Int.toNat_natCast, if_pos (by rw [h1]; omega), wrap_small (n := (i : Int) + 1) (by omega) (by omega), show ((i : Int) + 1) = ((i + 1 : Nat) : Int) by omega]
    refine ih (i + 1) k _ (by omega) (by omega) (by rw [ByteArray.size_append, h1, hs]) ?_
    rw [append_data]
    unfold prL at hp h2 ⊢
    rw [List.all_append, hp, h2]
    rfl
theorem smallV_text {c : ByteArray} (h : c.size ≤ 3) (hp : prL c.data.toList = true) : SmallV 3 0 c := by
  refine ⟨?_, h⟩
  have h2 : c.size ≤ 200 := by omega
  unfold okV isB
  simp [h2, hp]
  decide
theorem tameAs_j0 (x : Bool) (a b : Int) (c : ByteArray) (kd : Int) (nl : Bool) (hb : inI64 b = true) (k : Nat) (hk : 5 ≤ k) : ∃ p, tacticianref01_TameAs.j0 k x a b c kd nl = some p ∧ SmallV p.1 p.2.1 p.2.2 := by
  obtain ⟨k, rfl⟩ : ∃ m, k = m + 1 := ⟨k - 1, by omega⟩
  rw [tacticianref01_TameAs.j0]
  unfold tacticianref01_Null.f tacticianref01_Bool.f tacticianref01_Int.f
  cases x with
  | true => exact ⟨_, rfl, by decide, by decide⟩
  | false =>
    rw [if_neg (by decide)]
    by_cases h2 : kd = 2
    · rw [if_pos h2]
      cases (Int.tmod b 2 != 0) with
      | true => exact ⟨_, rfl, by decide, by decide⟩
      | false => exact ⟨_, rfl, by decide, by decide⟩
    · rw [if_neg h2]
      by_cases h3 : kd = 3
      · rw [if_pos h3]
        obtain ⟨d, e, hs, hp⟩ := tameAs_loop c a b (min c.size 3) 0 k ⟨#[]⟩ (by omega) (by omega) rfl rfl
        exact ⟨_, e, smallV_text hs hp⟩
      · rw [if_neg h3]
        have hi : ∀ n, inI64 n = true → SmallV 1 n ⟨#[]⟩ := fun n hn => ⟨by unfold okV; rw [hn]; rfl, by decide⟩
        split
        · exact ⟨_, rfl, hi _ hb⟩
        · exact ⟨_, rfl, hi _ (inI64_wrap _)⟩
theorem tameAs_ok (a b : Int) (c : ByteArray) (kd : Int) (nl : Bool) (hb : inI64 b = true) (k : Nat) (hk : 5 ≤ k) : ∃ p, tacticianref01_TameAs.f k a b c kd nl = some p ∧ SmallV p.1 p.2.1 p.2.2 := by
  unfold tacticianref01_TameAs.f
  split
  · split
    · exact tameAs_j0 _ a b c kd nl hb k hk
    · exact tameAs_j0 _ a b c kd nl hb k hk
  · exact tameAs_j0 _ a b c kd nl hb k hk
/-- a right row, of few and small values -/
def TameR (r : List V) : Prop := r.length = 3 ∧ ∀ v ∈ r, SmallV v.f0 v.f1 v.f2
theorem tame_l1 (cols : List S88) (hc : cols.length = 3) (raw : List (List V)) (n : Int) (hr : argRows raw) (i : Nat) (hi : i < raw.length) : ∀ (d j k : Nat) (out : List (List V)) (row : List V), j + d = 3 → row.length = j → (∀ v ∈ row, SmallV v.f0 v.f1 v.f2) → out.length ≤ 1000 → 5 ≤ k →
    ∃ row', TameR row' ∧ tacticianref02_TameRows.l1 (k + d + 1) cols raw n out (i : Int) row (j : Int) = tacticianref02_TameRows.l0 k cols raw n (out ++ [row']) (wrap64 ((i : Int) + 1)) := by
  intro d
  induction d with
  | zero =>
    intro j k out row hj hl hv ho hk
    refine ⟨row, ⟨by omega, hv⟩, ?_⟩
    rw [tacticianref02_TameRows.l1, if_neg (by omega), if_pos (by omega)]
  | succ d ih =>
    intro j k out row hj hl hv ho hk
    rw [show k + (d + 1) + 1 = (k + d + 1) + 1 by omega, tacticianref02_TameRows.l1, if_pos (by omega), if_pos (by omega), if_pos (by omega), rdL_at raw i hi]
    have hw : wrap64 ((j : Int) + 1) = ((j + 1 : Nat) : Int) := by rw [wrap_small (n := (j : Int) + 1) (by omega) (by omega)]; omega
    have step : ∀ p : Int × Int × ByteArray, SmallV p.1 p.2.1 p.2.2 → ∃ row', TameR row' ∧ (if row.length < 4398046511104 then tacticianref02_TameRows.l1 (k + d + 1) cols raw n out (i : Int) (row ++ [(⟨p.1, p.2.1, p.2.2⟩ : V)]) (wrap64 ((j : Int) + 1)) else none) = tacticianref02_TameRows.l0 k cols raw n (out ++ [row']) (wrap64 ((i : Int) + 1)) := by
      intro p hp
      rw [if_pos (by omega), hw]
      refine ih (j + 1) k out _ (by omega) (by rw [List.length_append, List.length_singleton, hl]) (fun v hm => ?_) ho hk
      rcases List.mem_append.1 hm with h | h
      · exact hv v h
      · rw [List.mem_singleton.1 h]; exact hp
    by_cases h0 : 0 < raw[i].length
    · have t1 : 0 ≤ Int.tmod (j : Int) (raw[i].length : Int) := Int.tmod_nonneg _ (by omega)
      have t2 : Int.tmod (j : Int) (raw[i].length : Int) < (raw[i].length : Int) := Int.tmod_lt_of_pos _ (by omega)
      rw [if_pos (by omega), if_neg (by omega), if_pos t1, if_pos t2, if_pos (by omega)]
      obtain ⟨p, e, hp⟩ := tameAs_ok (rd_T61 raw[i] (Int.tmod (j : Int) (raw[i].length : Int))).f0 (wrap64 (((rd_T61 raw[i] (Int.tmod (j : Int) (raw[i].length : Int))).f1) + (wrap64 (Int.tdiv (j : Int) (raw[i].length : Int))))) (rd_T61 raw[i] (Int.tmod (j : Int) (raw[i].length : Int))).f2 (rd_T88 cols (j : Int)).f0 (rd_T88 cols (j : Int)).f1 (inI64_wrap _) (k + d + 1) (by omega)
      rw [e, Option.bind_some]
      exact step p hp
    · rw [if_neg (by omega), if_pos (by omega)]
      obtain ⟨p, e, hp⟩ := tameAs_ok 0 0 ⟨#[]⟩ (rd_T88 cols (j : Int)).f0 (rd_T88 cols (j : Int)).f1 (by decide) (k + d + 1) (by omega)
      rw [e, Option.bind_some]
      exact step p hp
theorem tame_l0 (cols : List S88) (hc : cols.length = 3) (raw : List (List V)) (n : Nat) (hn : n ≤ 1000) (hr : argRows raw) : ∀ (d i k : Nat) (out : List (List V)), i + d = min raw.length n → out.length = i → (∀ r ∈ out, TameR r) → 10 * d + 10 ≤ k →
    ∃ L, tacticianref02_TameRows.l0 k cols raw (n : Int) out (i : Int) = some L ∧ L.length ≤ n ∧ ∀ r ∈ L, TameR r := by
  intro d
  induction d with
  | zero =>
    intro i k out hi hl ho hk
    obtain ⟨k, rfl⟩ : ∃ m, k = m + 2 := ⟨k - 2, by omega⟩
    refine ⟨out, ?_, by omega, ho⟩
    rw [tacticianref02_TameRows.l0]
    by_cases h : i < raw.length
    · rw [if_pos (by omega), decide_eq_false (by omega), tacticianref02_TameRows.j1, if_neg (by decide)]
    · rw [if_neg (by omega), tacticianref02_TameRows.j1, if_neg (by decide)]
  | succ d ih =>
    intro i k out hi hl ho hk
    obtain ⟨k, rfl⟩ : ∃ m, k = (m + 3 + 1) + 2 := ⟨k - 6, by omega⟩
    have h1 : i < raw.length := by omega
    obtain ⟨row, hrow, e⟩ := tame_l1 cols hc raw (n : Int) hr i h1 3 0 k out [] (by omega) rfl (fun v h => by cases h) (by omega) (by omega)
    rw [tacticianref02_TameRows.l0, if_pos (by omega), decide_eq_true (by omega), tacticianref02_TameRows.j1, if_pos rfl]
    obtain ⟨L, eL, h2, h3⟩ := ih (i + 1) k (out ++ [row]) (by omega) (by rw [List.length_append, List.length_singleton, hl]) (fun r hm => by
      rcases List.mem_append.1 hm with h | h
      · exact ho r h
      · rw [List.mem_singleton.1 h]; exact hrow) (by omega)
    refine ⟨L, ?_, h2, h3⟩
    refine e.trans ?_
    have hb := hr.2.1
    unfold maxLen at hb
    rw [wrap_small (n := (i : Int) + 1) (by omega) (by omega), show ((i : Int) + 1) = ((i + 1 : Nat) : Int) by omega]
    exact eL
theorem some_at (raw : List (List V)) (hr : argRows raw) (n : Nat) (hn : n ≤ 1000) (k : Nat) (hk : 10 * n + 10 ≤ k) : ∃ L, tacticianlaw02_some.f k raw (n : Int) = some L ∧ L.length ≤ n ∧ ∀ r ∈ L, TameR r := by
  obtain ⟨L, e, h1, h2⟩ := tame_l0 [(⟨1, true⟩ : S88), (⟨3, false⟩ : S88), (⟨2, true⟩ : S88)] rfl raw n hn hr (min raw.length n) 0 k [] (by omega) rfl (fun r h => by cases h) (by omega)
  refine ⟨L, ?_, h1, h2⟩
  unfold tacticianlaw02_some.f tacticianref02_TameRows.f
  rw [show (0 : Int) = ((0 : Nat) : Int) from rfl, e]
  rfl
/-- rows that nothing is wrong with -/
def GoodR (l : List (List V)) : Prop := l.length ≤ 100 ∧ ∀ r ∈ l, TameR r
theorem GoodR.ok {l : List (List V)} (h : GoodR l) : RowsOk 100 l := ⟨h.1, fun r hr => ⟨by have := (h.2 r hr).1; omega, fun v hv => by
  have := (h.2 r hr).2 v hv
  refine ⟨by have := this.2; omega, ?_⟩
  have h2 := this.1
  unfold okV at h2
  rw [Bool.and_eq_true] at h2
  exact h2.2⟩⟩
theorem GoodR.wrong {l : List (List V)} (h : GoodR l) : wrongR l = false := by
  unfold wrongR
  rw [List.any_eq_false]
  intro r hr
  rw [Bool.not_eq_true, List.any_eq_false]
  intro v hv
  have h2 := ((h.2 r hr).2 v hv).1
  unfold okV at h2
  rw [Bool.and_eq_true] at h2
  show ¬ (!isV v) = true
  unfold isV
  rw [h2.1]
  decide
theorem GoodR.large {l : List (List V)} (h : GoodR l) : largeR l = false := by
  unfold largeR
  rw [decide_eq_false (by have := h.1; omega), Bool.false_or, List.any_eq_false]
  intro r hr
  rw [decide_eq_true_eq]
  have := (h.2 r hr).1
  omega
theorem GoodR.small {l : List (List V)} (h : GoodR l) : smallE [l] = 0 := by
  unfold smallE
  simp only [List.any_cons, List.any_nil, Bool.or_false]
  rw [h.large, h.wrong]
  rfl
theorem GoodR.small2 {a b : List (List V)} (ha : GoodR a) (hb : GoodR b) : smallE [a, b] = 0 := by
  unfold smallE
  simp only [List.any_cons, List.any_nil, Bool.or_false]
  rw [ha.large, ha.wrong, hb.large, hb.wrong]
  rfl
theorem GoodR.sub {l r : List (List V)} (h : GoodR l) (hs : ∀ x ∈ r, x ∈ l) (hl : r.length ≤ 100) : GoodR r := ⟨hl, fun x hx => h.2 x (hs x hx)⟩
end Go.Proofs.YtmhobbdedmjmnaaGreatDoor
end
section
/- Rows in groups with the same values at places: the runs of the rows in their order by these values are the groups of the definition; no program in sight. -/
namespace Go.Proofs.YtmhobbdedmjmnaaGreatDoor
open Go.RowKit Go.Sort Go.Proofs.YtmhobbdedmjmnaaGreatDoor.Q Go.Proofs.YtmhobbdedmjmnaaGreatDoorW.PrintWords Go.Proofs.YtmhobbdedmjmnaaGreatDoorW.PrintLast Go.Proofs.YtmhobbdedmjmnaaGreatDoorW.PrintMore
section
variable {α β : Type} [DecidableEq β]
/-- the runs of what has the same key -/
def runsAux (f : α → β) (k : β) (cur : List α) : List α → List (List α)
  | [] => [cur]
  | x :: l => if f x = k then runsAux f k (cur ++ [x]) l else cur :: runsAux f (f x) [x] l
def runs (f : α → β) : List α → List (List α)
  | [] => []
  | x :: l => runsAux f (f x) [x] l
theorem runsAux_same (f : α → β) (k : β) : ∀ (g cur rest : List α), (∀ x ∈ g, f x = k) → runsAux f k cur (g ++ rest) = runsAux f k (cur ++ g) rest
  | [], cur, rest, _ => by simp
  | x :: g, cur, rest, h => by
    rw [List.cons_append, runsAux, if_pos (h x List.mem_cons_self), runsAux_same f k g (cur ++ [x]) rest fun y hy => h y (List.mem_cons_of_mem _ hy)]
    simp
theorem runs_flat (f : α → β) (G : β → List α) : ∀ (hs : List β), hs.Nodup → (∀ h ∈ hs, G h ≠ [] ∧ ∀ x ∈ G h, f x = h) → runs f (hs.flatMap G) = hs.map G
  | [], _, _ => rfl
  | h :: hs, hn, hG => by
    have hn' := List.nodup_cons.1 hn
    obtain ⟨h1, h2⟩ := hG h List.mem_cons_self
    obtain ⟨x, g, hg⟩ : ∃ x g, G h = x :: g := by
      cases e : G h with
      | nil => exact absurd e h1
      | cons x g => exact ⟨x, g, rfl⟩
    have hx : f x = h := h2 x (by rw [hg]; exact List.mem_cons_self)
    have ih := runs_flat f G hs hn'.2 fun k hk => hG k (List.mem_cons_of_mem _ hk)
    rw [List.flatMap_cons, hg, List.cons_append, runs, hx, runsAux_same f h g [x] _ fun y hy => h2 y (by rw [hg]; exact List.mem_cons_of_mem _ hy), List.map_cons, hg]
    show runsAux f h (x :: g) _ = _
    cases hs with
    | nil => rfl
    | cons k ks =>
      obtain ⟨h3, h4⟩ := hG k (by simp)
      obtain ⟨y, q, hq⟩ : ∃ y q, G k = y :: q := by
        cases e : G k with
        | nil => exact absurd e h3
        | cons y q => exact ⟨y, q, rfl⟩
      have hy : f y = k := h4 y (by rw [hq]; exact List.mem_cons_self)
      rw [List.flatMap_cons, hq, List.cons_append] at ih ⊢
      rw [runsAux, if_neg (by rw [hy]; intro e; exact hn'.1 (by rw [← e]; exact List.mem_cons_self))]
      rw [runs] at ih
      rw [ih]
end
/-- the different values at places, in order -/
def headsR (p : List Int) (l : List (List V)) : List (List V) := oneR (l.map (atP p))
/-- the rows with these values, in order -/
def groupR (p : List Int) (l : List (List V)) (h : List V) : List (List V) := (canR l).filter fun r => decide (atP p r = h)
theorem groupR_mem {p : List Int} {l : List (List V)} {h r : List V} : r ∈ groupR p l h ↔ r ∈ l ∧ atP p r = h := by
  unfold groupR canR
  rw [List.mem_filter, sortBy_mem, decide_eq_true_eq]
theorem cnt_group (p : List Int) (l : List (List V)) (x : List V) : ∀ hs : List (List V), hs.Nodup → cnt (hs.flatMap (groupR p l)) x = if atP p x ∈ hs then cnt l x else 0
  | [], _ => by simp [cnt]
  | h :: hs, hn => by
    have hn' := List.nodup_cons.1 hn
    rw [List.flatMap_cons, cnt_append, cnt_group p l x hs hn'.2]
    have e1 : cnt (groupR p l h) x = if atP p x = h then cnt l x else 0 := by
      unfold groupR
      rw [cnt_filter, cnt_sort]
      by_cases e : atP p x = h
      · rw [if_pos e, if_pos (decide_eq_true e)]
      · rw [if_neg e, if_neg (by simpa using e)]
    rw [e1]
    by_cases e : atP p x = h
    · have m1 : atP p x ∈ h :: hs := by rw [e]; exact List.mem_cons_self
      have m2 : ¬ atP p x ∈ hs := by rw [e]; exact hn'.1
      rw [if_pos e, if_neg m2, if_pos m1]
      omega
    · rw [if_neg e, Nat.zero_add]
      by_cases m : atP p x ∈ hs
      · rw [if_pos m, if_pos (List.mem_cons_of_mem _ m)]
      · have m1 : ¬ atP p x ∈ h :: hs := fun q => by
          rcases List.mem_cons.1 q with z | z
          · exact e z
          · exact m z
        rw [if_neg m, if_neg m1]
theorem group_sorted (p : List Int) (l : List (List V)) : ∀ hs : List (List V), hs.Pairwise (fun a b => cfR a b < 0) → (hs.flatMap (groupR p l)).Pairwise fun a b => leOf (cfP p) a b = true
  | [], _ => List.Pairwise.nil
  | h :: hs, hp => by
    have hp' := List.pairwise_cons.1 hp
    rw [List.flatMap_cons, List.pairwise_append]
    refine ⟨?_, group_sorted p l hs hp'.2, fun a ha b hb => ?_⟩
    · have h1 : (groupR p l h).Pairwise fun a b => leOf cfR a b = true := (cfR_tc.sorted l).filter _
      refine List.Pairwise.imp_of_mem (fun {a b} ha hb hab => ?_) h1
      unfold leOf cfP
      rw [(groupR_mem.1 ha).2, (groupR_mem.1 hb).2, cfR_tc.refl, if_neg (by simp)]
      exact hab
    · obtain ⟨k, hk, hb⟩ := List.mem_flatMap.1 hb
      have hlt := hp'.1 k hk
      unfold leOf cfP
      rw [(groupR_mem.1 ha).2, (groupR_mem.1 hb).2, if_pos (by omega), decide_eq_true_eq]
      omega
/-- the rows in their order by the values at places are the groups, one behind the other -/
theorem sorted_groups (p : List Int) (l : List (List V)) : sortBy (cfP p) l = (headsR p l).flatMap (groupR p l) := by
  obtain ⟨h1, h2⟩ := oneR_spec (l.map (atP p))
  refine (cfP_tc p).eq_of_cnt ((cfP_tc p).sorted l) (group_sorted p l _ h1) fun x => ?_
  have hg := cnt_group p l x (headsR p l) (cfR_tc.nodup h1)
  rw [cnt_perm (sortBy_perm (cfP p) l) x, hg]
  by_cases h : x ∈ l
  · have m : atP p x ∈ headsR p l := (h2 _).2 (List.mem_map.2 ⟨x, h, rfl⟩)
    rw [if_pos m]
  · rw [cnt_none h]
    split <;> rfl
/-- .. and their runs are the groups of the definition -/
theorem runs_groups (p : List Int) (l : List (List V)) : runs (atP p) (sortBy (cfP p) l) = (headsR p l).map (groupR p l) := by
  obtain ⟨h1, h2⟩ := oneR_spec (l.map (atP p))
  rw [sorted_groups]
  refine runs_flat (atP p) (groupR p l) _ (cfR_tc.nodup h1) fun h hh => ?_
  obtain ⟨x, hx, e⟩ := List.mem_map.1 ((h2 h).1 hh)
  have hm : x ∈ groupR p l h := groupR_mem.2 ⟨hx, e⟩
  refine ⟨fun q => ?_, fun y hy => (groupR_mem.1 hy).2⟩
  rw [q] at hm
  simp at hm
end Go.Proofs.YtmhobbdedmjmnaaGreatDoor
end
section
/- Parts of a list, and where they lie in a row; no program in sight. -/
namespace Go.Proofs.YtmhobbdedmjmnaaGreatDoor
open Go.RowKit Go.Sort Go.Shelf Go.Proofs.YtmhobbdedmjmnaaGreatDoor.Q Go.Proofs.YtmhobbdedmjmnaaGreatDoorW.PrintWords Go.Proofs.YtmhobbdedmjmnaaGreatDoorW.PrintLast Go.Proofs.YtmhobbdedmjmnaaGreatDoorW.PrintMore
/-- the part of a list from a place to a place; a cut of a row, in memory -/
def segL {α : Type} (s : List α) (x : Nat × Nat) : List α := (s.drop x.1).take (x.2 - x.1)
def encP (ad : Addr) (x : Nat × Nat) : Value := .slice (some (ad.add x.1)) (x.2 - x.1) (x.2 - x.1)
theorem runs_seg {α β : Type} [DecidableEq β] (f : α → β) (s : List α) (i j : Nat) (hi : i < s.length) (hj : j ≤ s.length) (hij : i < j) (hs : ∀ m (hm : m < s.length), i ≤ m → m < j → f s[m] = f s[i]) (he : ∀ h : j < s.length, f s[j] ≠ f s[i]) :
    runs f (s.drop i) = segL s (i, j) :: runs f (s.drop j) := by
  have hsplit : s.drop i = segL s (i, j) ++ s.drop j := by
    unfold segL
    rw [show s.drop j = (s.drop i).drop (j - i) by rw [List.drop_drop]; congr 1; omega]
    exact (List.take_append_drop _ _).symm
  obtain ⟨g, hg⟩ : ∃ g, segL s (i, j) = s[i] :: g := by
    unfold segL
    rw [List.drop_eq_getElem_cons hi]
    obtain ⟨q, hq⟩ : ∃ q, j - i = q + 1 := ⟨j - i - 1, by omega⟩
    show ∃ g, List.take (j - i) _ = _
    rw [hq]
    exact ⟨_, List.take_succ_cons⟩
  have hm : ∀ y ∈ g, f y = f s[i] := fun y hy => by
    have hy2 : y ∈ segL s (i, j) := by rw [hg]; exact List.mem_cons_of_mem _ hy
    unfold segL at hy2
    obtain ⟨q, hq, rfl⟩ := List.getElem_of_mem hy2
    rw [List.length_take, List.length_drop] at hq
    rw [List.getElem_take, List.getElem_drop]
    exact hs _ (by omega) (by omega) (by show i + q < j; have := Nat.lt_of_lt_of_le hq (Nat.min_le_left _ _); change q < j - i at this; omega)
  rw [hsplit, hg, List.cons_append, runs, runsAux_same f (f s[i]) g [s[i]] (s.drop j) hm]
  show runsAux f (f s[i]) (s[i] :: g) (s.drop j) = _
  by_cases h : j < s.length
  · rw [List.drop_eq_getElem_cons h, runsAux, if_neg (he h), runs]
  · rw [List.drop_of_length_le (by omega)]
    rfl
theorem abide_below {β : Type} {B : Nat} {J : β → World → Prop} (hJ : AbidesFrom B J) {s : β} {A A' : World} (h : J s A) (hb : Below A.heap.size A A') : J s A' := hJ s A A' none h (grownBy_of_below hb none) (fun r e => by cases e)
theorem kept_cell {B : Nat} {w w' : World} (hb : Below B w w') (hB : B = w.heap.size) {a : Addr} {v : Value} (hc : w.cell? a = some v) : w'.cell? a = some v := by
  subst hB
  exact cell_keeps hb hc
end Go.Proofs.YtmhobbdedmjmnaaGreatDoor
end
section
/- Rows of rows, in memory of one's own that may be written: their shape, and that a store of a value, or of no row, keeps it; no program in sight. -/
namespace Go.Proofs.YtmhobbdedmjmnaaGreatDoor
open Go.RowKit Go.Proofs.YtmhobbdedmjmnaaGreatDoor.Q Go.Proofs.YtmhobbdedmjmnaaGreatDoorW.PrintWords Go.Proofs.YtmhobbdedmjmnaaGreatDoorW.PrintLast Go.Proofs.YtmhobbdedmjmnaaGreatDoorW.PrintMore
/-- no cell of a block is frozen -/
def Free (w : World) (g : Nat) : Prop := ∀ i, w.frozen? ⟨g, i, none⟩ = false
/-- a row of values that may be written; a row of such rows (of how many); a header of values -/
def IsRow (w : World) (ok : Nat → Prop) (v : Value) : Prop :=
  ∃ A n c, v = .slice A n c ∧ n ≤ 9223372036854775807 ∧ (0 < n → ∃ g, A = some ⟨g, 0, none⟩ ∧ ok g ∧ Free w g ∧ ∀ j, j < n → ∃ a b s, w.cell? ⟨g, j * 3, none⟩ = some (.int .i64 a) ∧ w.cell? ⟨g, j * 3 + 1, none⟩ = some (.int .i64 b) ∧ w.cell? ⟨g, j * 3 + 2, none⟩ = some (.string s))
def IsRR (w : World) (ok : Nat → Prop) (v : Value) : Prop :=
  ∃ A n c, v = .slice A n c ∧ n ≤ 9223372036854775807 ∧ (0 < n → ∃ g o, A = some ⟨g, o, none⟩ ∧ ok g ∧ Free w g ∧ ∀ j, j < n → ∃ u, w.cell? ⟨g, o + j, none⟩ = some u ∧ IsRow w ok u)
/-- what may become of a cell -/
def Turn (x y : Value) : Prop := y = x ∨ (∃ a b, x = .int .i64 a ∧ y = .int .i64 b) ∨ (∃ a b, x = .string a ∧ y = .string b) ∨ ((∃ A n c, x = .slice A n c) ∧ y = .slice none 0 0)
structure Sim (w w1 : World) : Prop where
  cell : ∀ (p : Addr) (x : Value), w.cell? p = some x → ∃ y, w1.cell? p = some y ∧ Turn x y
  free : ∀ p x, w.cell? p = some x → Free w p.block → Free w1 p.block
theorem Turn.trans {x y z : Value} (h : Turn x y) (k : Turn y z) : Turn x z := by
  rcases h with rfl | ⟨a, b, rfl, rfl⟩ | ⟨a, b, rfl, rfl⟩ | ⟨⟨A, n, c, rfl⟩, rfl⟩
  · exact k
  · rcases k with rfl | ⟨a', b', e, rfl⟩ | ⟨a', b', e, rfl⟩ | ⟨⟨A, n, c, e⟩, rfl⟩
    · exact .inr (.inl ⟨_, _, rfl, rfl⟩)
    · exact .inr (.inl ⟨_, _, rfl, rfl⟩)
    · cases e
    · cases e
  · rcases k with rfl | ⟨a', b', e, rfl⟩ | ⟨a', b', e, rfl⟩ | ⟨⟨A, n, c, e⟩, rfl⟩
    · exact .inr (.inr (.inl ⟨_, _, rfl, rfl⟩))
    · cases e
    · exact .inr (.inr (.inl ⟨_, _, rfl, rfl⟩))
    · cases e
  · rcases k with rfl | ⟨a', b', e, rfl⟩ | ⟨a', b', e, rfl⟩ | ⟨_, rfl⟩
    · exact .inr (.inr (.inr ⟨⟨_, _, _, rfl⟩, rfl⟩))
    · cases e
    · cases e
    · exact .inr (.inr (.inr ⟨⟨_, _, _, rfl⟩, rfl⟩))
theorem cell_block {w w1 : World} {k : Nat} (h : w1.heap[k]? = w.heap[k]?) (p : Addr) (hp : p.block = k) : w1.cell? p = w.cell? p := by
  unfold World.cell?
  rw [hp, h]
theorem free_block {w w1 : World} {k : Nat} (h : w1.heap[k]? = w.heap[k]?) (hf : Free w k) : Free w1 k := fun i => by
  have := hf i
  unfold World.frozen? at this ⊢
  dsimp only at this ⊢
  rw [h]
  exact this
theorem Sim.trans {w w1 w2 : World} (h : Sim w w1) (k : Sim w1 w2) : Sim w w2 :=
  ⟨fun p x hx => by
    obtain ⟨y, hy, t1⟩ := h.cell p x hx
    obtain ⟨z, hz, t2⟩ := k.cell p y hy
    exact ⟨z, hz, t1.trans t2⟩, fun p x hx hf => by
    obtain ⟨y, hy, _⟩ := h.cell p x hx
    exact k.free p y hy (h.free p x hx hf)⟩
theorem Sim.below {w w1 : World} (hb : Below w.heap.size w w1) : Sim w w1 :=
  ⟨fun p x hx => ⟨x, by rw [cell_block (hb.block p.block (World.block_lt_of_cell? w p hx)) p rfl]; exact hx, .inl rfl⟩, fun p x hx hf => free_block (hb.block p.block (World.block_lt_of_cell? w p hx)) hf⟩
theorem free_set {w : World} {g : Nat} (h : Free w g) (p : Addr) (v : Value) : Free (w.setCell p v) g := fun i => by
  have hi := h i
  unfold World.frozen? World.setCell at *
  dsimp only at *
  rw [Array.getElem?_modify]
  by_cases e : p.block = g
  · rw [if_pos e]
    cases hq : w.heap[g]? with
    | none => rfl
    | some o =>
      rw [hq] at hi
      cases o <;> first | exact hi | rfl
  · rw [if_neg e]
    exact hi
theorem Sim.set {w : World} {p : Addr} {x y : Value} (hx : w.cell? p = some x) (ht : Turn x y) : Sim w (w.setCell p y) :=
  ⟨fun q z hz => by
    by_cases e : p = q
    · subst e
      rw [hx] at hz
      obtain rfl := Option.some.inj hz
      exact ⟨y, World.cell?_setCell_same _ _ _ hx, ht⟩
    · exact ⟨z, by rw [World.cell?_setCell_other _ _ _ _ e]; exact hz, .inl rfl⟩, fun q z _ hf => free_set hf p y⟩
theorem Sim.set_int {w : World} {p : Addr} {a b : Int} (hx : w.cell? p = some (.int .i64 a)) : Sim w (w.setCell p (.int .i64 b)) := Sim.set hx (.inr (.inl ⟨a, b, rfl, rfl⟩))
theorem Sim.set_str {w : World} {p : Addr} {a b : ByteArray} (hx : w.cell? p = some (.string a)) : Sim w (w.setCell p (.string b)) := Sim.set hx (.inr (.inr (.inl ⟨a, b, rfl, rfl⟩)))
theorem turn_int {a : Int} {y : Value} (h : Turn (.int .i64 a) y) : ∃ b, y = .int .i64 b := by
  rcases h with rfl | ⟨a', b', e, rfl⟩ | ⟨a', b', e, rfl⟩ | ⟨⟨A, n, c, e⟩, rfl⟩
  · exact ⟨_, rfl⟩
  · exact ⟨_, rfl⟩
  · cases e
  · cases e
theorem turn_str {a : ByteArray} {y : Value} (h : Turn (.string a) y) : ∃ b, y = .string b := by
  rcases h with rfl | ⟨a', b', e, rfl⟩ | ⟨a', b', e, rfl⟩ | ⟨⟨A, n, c, e⟩, rfl⟩
  · exact ⟨_, rfl⟩
  · cases e
  · exact ⟨_, rfl⟩
  · cases e
theorem turn_slice {A : Option Addr} {n c : Nat} {y : Value} (h : Turn (.slice A n c) y) : y = .slice A n c ∨ y = .slice none 0 0 := by
  rcases h with rfl | ⟨a', b', e, rfl⟩ | ⟨a', b', e, rfl⟩ | ⟨_, rfl⟩
  · exact .inl rfl
  · cases e
  · cases e
  · exact .inr rfl
theorem isRow_nil (w : World) (ok : Nat → Prop) : IsRow w ok (.slice none 0 0) := ⟨none, 0, 0, rfl, by omega, fun h => absurd h (by omega)⟩
theorem IsRow.sim {w w1 : World} {ok : Nat → Prop} {v : Value} (h : IsRow w ok v) (s : Sim w w1) : IsRow w1 ok v := by
  obtain ⟨A, n, c, rfl, hn, hc⟩ := h
  refine ⟨A, n, c, rfl, hn, fun h0 => ?_⟩
  obtain ⟨g, rfl, hg, hf, hj⟩ := hc h0
  refine ⟨g, rfl, hg, ?_, fun j hjn => ?_⟩
  · obtain ⟨a, b, t, e0, _, _⟩ := hj 0 h0
    exact s.free _ _ e0 hf
  · obtain ⟨a, b, t, e0, e1, e2⟩ := hj j hjn
    obtain ⟨y0, f0, t0⟩ := s.cell _ _ e0
    obtain ⟨y1, f1, t1⟩ := s.cell _ _ e1
    obtain ⟨y2, f2, t2⟩ := s.cell _ _ e2
    obtain ⟨a', rfl⟩ := turn_int t0
    obtain ⟨b', rfl⟩ := turn_int t1
    obtain ⟨t', rfl⟩ := turn_str t2
    exact ⟨a', b', t', f0, f1, f2⟩
theorem IsRR.sim {w w1 : World} {ok : Nat → Prop} {v : Value} (h : IsRR w ok v) (s : Sim w w1) : IsRR w1 ok v := by
  obtain ⟨A, n, c, rfl, hn, hc⟩ := h
  refine ⟨A, n, c, rfl, hn, fun h0 => ?_⟩
  obtain ⟨g, o, rfl, hg, hf, hj⟩ := hc h0
  refine ⟨g, o, rfl, hg, ?_, fun j hjn => ?_⟩
  · obtain ⟨u, e0, _⟩ := hj 0 h0
    exact s.free _ _ e0 hf
  · obtain ⟨u, e0, hu⟩ := hj j hjn
    obtain ⟨y, f0, t0⟩ := s.cell _ _ e0
    have hu2 := hu
    obtain ⟨A', n', c', rfl, _, _⟩ := hu2
    rcases turn_slice t0 with rfl | rfl
    · exact ⟨_, f0, hu.sim s⟩
    · exact ⟨_, f0, isRow_nil _ _⟩
theorem IsRow.mono {w : World} {ok ok' : Nat → Prop} {v : Value} (h : IsRow w ok v) (hk : ∀ g, g < w.heap.size → ok g → ok' g) : IsRow w ok' v := by
  obtain ⟨A, n, c, rfl, hn, hc⟩ := h
  refine ⟨A, n, c, rfl, hn, fun h0 => ?_⟩
  obtain ⟨g, rfl, hg, hf, hj⟩ := hc h0
  obtain ⟨a, b, t, e0, _, _⟩ := hj 0 h0
  exact ⟨g, rfl, hk g (World.block_lt_of_cell? w _ e0) hg, hf, hj⟩
theorem IsRR.mono {w : World} {ok ok' : Nat → Prop} {v : Value} (h : IsRR w ok v) (hk : ∀ g, g < w.heap.size → ok g → ok' g) : IsRR w ok' v := by
  obtain ⟨A, n, c, rfl, hn, hc⟩ := h
  refine ⟨A, n, c, rfl, hn, fun h0 => ?_⟩
  obtain ⟨g, o, rfl, hg, hf, hj⟩ := hc h0
  obtain ⟨u, e0, _⟩ := hj 0 h0
  refine ⟨g, o, rfl, hk g (World.block_lt_of_cell? w _ e0) hg, hf, fun j hjn => ?_⟩
  obtain ⟨u, e1, hu⟩ := hj j hjn
  exact ⟨u, e1, hu.mono hk⟩
/-- rows that a call has made -/
theorem free_cells {w : World} {k : Nat} {cells : Array Value} {t : Nat} (h : w.heap[k]? = some (.cells cells t (0, 0))) : Free w k := fun i => by
  unfold World.frozen?
  dsimp only
  rw [h]
  simp
theorem isRow_of_R {w : World} {base : Nat} {ok : Nat → Prop} {v : Value} {xs : List V} (h : Kd.R k61 61 w base ok v xs) : IsRow w (fun k => base ≤ k) v := by
  obtain ⟨A, c, rfl, hl, hC⟩ := Kd.R_reads h
  refine ⟨A, xs.length, c, rfl, hC.2.1, fun h0 => ?_⟩
  obtain ⟨g, cap, e, hg, hb, _⟩ := Kd.R_form h h0
  injection e with e1 _ _
  subst e1
  obtain ⟨cells, hcells⟩ := Kd.R_typed h g rfl
  refine ⟨g, rfl, Kd.R_base h g rfl, free_cells hcells, fun j hj => ?_⟩
  obtain ⟨ad, e1, hx0, hx1, hx2⟩ := at_T61 hC (j : Int) (by omega) (by omega)
  cases e1
  simp only [Int.toNat_natCast, add_at, Nat.zero_add] at hx0 hx1 hx2
  exact ⟨_, _, _, hx0, hx1, hx2⟩
theorem isRR_of_S {w : World} {base : Nat} {ok : Nat → Prop} {v : Value} {xs : List (List V)} (h : Kd.S (Kd.slice 61 k61) 40 w base ok v xs) : IsRR w (fun k => base ≤ k) v := by
  have hR := Kd.S_R h
  obtain ⟨A, c, rfl, hl, hC⟩ := Kd.R_reads hR
  refine ⟨A, xs.length, c, rfl, hC.2.1, fun h0 => ?_⟩
  obtain ⟨g, cap, e, hg, hb, _⟩ := Kd.R_form hR h0
  injection e with e1 _ _
  subst e1
  obtain ⟨cells, hcells⟩ := Kd.R_typed hR g rfl
  refine ⟨g, 0, rfl, Kd.R_base hR g rfl, free_cells hcells, fun j hj => ?_⟩
  obtain ⟨ce, hcl, hM, hcc, _⟩ := Kd.R_elem hR [] (j : Int) (by omega) (by omega)
  obtain ⟨u, rfl, hu⟩ := hM
  have h2 := hcc 0 u rfl
  simp only [Int.toNat_natCast] at h2
  refine ⟨u, ?_, isRow_of_R hu⟩
  rw [Nat.zero_add]
  have e3 : j * (Kd.slice 61 k61).sz + 0 = j := by show j * 1 + 0 = j; omega
  first | (rw [e3] at h2; exact h2) | (have e4 : j * (Kd.slice 61 k61).sz = j := by show j * 1 = j; omega
                                       rw [e4] at h2; exact h2)
/-- a part of such a row; a row of such rows, made of parts -/
theorem isRR_cut {w : World} {ok : Nat → Prop} {A : Option Addr} {n c : Nat} (h : IsRR w ok (.slice A n c)) {ad : Addr} (hA : 0 < n → A = some ad) (y : Nat × Nat) (h1 : y.1 ≤ y.2) (h2 : y.2 ≤ n) : IsRR w ok (encP ad y) := by
  obtain ⟨A', n', c', e, hn, hc⟩ := h
  injection e with e1 e2 e3
  subst e1 e2 e3
  refine ⟨some (ad.add y.1), y.2 - y.1, y.2 - y.1, rfl, by omega, fun h0 => ?_⟩
  obtain ⟨g, o, ea, hg, hf, hj⟩ := hc (by omega)
  have e2 := (hA (by omega)).symm.trans ea
  obtain rfl := Option.some.inj e2
  refine ⟨g, o + y.1, by rw [add_at], hg, hf, fun j hjn => ?_⟩
  obtain ⟨u, e3, hu⟩ := hj (y.1 + j) (by omega)
  exact ⟨u, by rw [Nat.add_assoc]; exact e3, hu⟩
def IsGG (w : World) (ok : Nat → Prop) (v : Value) : Prop := ∃ A n c ys, v = .slice A n c ∧ n ≤ 1000000 ∧ ReadsRow ((Kd.raw 1).K w) 1 w A n ys ∧ ∀ r ∈ ys, ∃ u, r = [u] ∧ IsRR w ok u
theorem raw_cuts {w : World} {base : Nat} {ad : Addr} {v : Value} {xs : List (Nat × Nat)} (hown : w.ownsRow base 22 1 v xs.length (xs.map (encP ad))) : (Kd.raw 1).R 22 w base (fun _ => True) v (xs.map fun x => [encP ad x]) := by
  refine ⟨fun _ _ => trivial, xs.map (encP ad), by rw [List.length_map]; exact hown, ⟨by rw [List.length_map, List.length_map]; exact (Nat.mul_one _).symm, fun j p hj => ?_⟩⟩
  rw [List.getElem?_map] at hj
  obtain ⟨y, hy, rfl⟩ := Option.map_eq_some_iff.1 hj
  have hj2 := (List.getElem?_eq_some_iff.1 hy)
  obtain ⟨hjl, rfl⟩ := hj2
  have e : (List.drop (j * 1) (xs.map (encP ad))).take 1 = [encP ad xs[j]] := by
    rw [Nat.mul_one, List.drop_eq_getElem_cons (by rw [List.length_map]; exact hjl), List.take_succ_cons, List.getElem_map]
    rfl
  show (List.drop (j * 1) (xs.map (encP ad))).take 1 = [encP ad xs[j]] ∧ ((List.drop (j * 1) (xs.map (encP ad))).take 1).length = 1 ∧ ∀ u ∈ (List.drop (j * 1) (xs.map (encP ad))).take 1, u.oneCell' = true
  rw [e]
  exact ⟨rfl, rfl, fun u hu => by rw [List.mem_singleton.1 hu]; rfl⟩
theorem isGG_cuts {w W' : World} {ok : Nat → Prop} {A : Option Addr} {n c base : Nat} {ad : Addr} {v : Value} {xs : List (Nat × Nat)} (h : IsRR w ok (.slice A n c)) (hA : 0 < n → A = some ad)
    (hown : W'.ownsRow base 22 1 v xs.length (xs.map (encP ad))) (hx : ∀ x ∈ xs, x.1 ≤ x.2 ∧ x.2 ≤ n) (hb : Below w.heap.size w W') (hl : xs.length ≤ 1000000) : IsGG W' ok v := by
  obtain ⟨A', c', rfl, _, hC⟩ := Kd.R_reads (raw_cuts hown)
  rw [List.length_map] at hC
  refine ⟨A', xs.length, c', xs.map fun x => [encP ad x], by rw [List.length_map], hl, hC, fun r hr => ?_⟩
  obtain ⟨x, hx1, rfl⟩ := List.mem_map.1 hr
  exact ⟨encP ad x, rfl, (isRR_cut (h.sim (Sim.below hb)) hA x (hx x hx1).1 (hx x hx1).2)⟩
theorem IsGG.below {w w1 : World} {ok : Nat → Prop} {v : Value} (h : IsGG w ok v) (hb : Below w.heap.size w w1) : IsGG w1 ok v := by
  obtain ⟨A, n, c, ys, rfl, hn, hR, hy⟩ := h
  refine ⟨A, n, c, ys, rfl, hn, Kd.C_below (d := Kd.raw 1) hR hb, fun r hr => ?_⟩
  obtain ⟨u, e, hu⟩ := hy r hr
  exact ⟨u, e, hu.sim (Sim.below hb)⟩
theorem IsRow.step {w w1 : World} {ok : Nat → Prop} {v : Value} (h : IsRow w ok v) (hm : ∀ k, ok k → k < w.heap.size → w1.heap[k]? = w.heap[k]?) : IsRow w1 ok v := by
  obtain ⟨A, n, c, rfl, hn, hc⟩ := h
  refine ⟨A, n, c, rfl, hn, fun h0 => ?_⟩
  obtain ⟨g, rfl, hg, hf, hj⟩ := hc h0
  obtain ⟨a, b, t, e0, _, _⟩ := hj 0 h0
  have hk := hm g hg (World.block_lt_of_cell? w _ e0)
  refine ⟨g, rfl, hg, free_block hk hf, fun j hjn => ?_⟩
  obtain ⟨a, b, t, e0, e1, e2⟩ := hj j hjn
  exact ⟨a, b, t, by rw [cell_block hk _ rfl]; exact e0, by rw [cell_block hk _ rfl]; exact e1, by rw [cell_block hk _ rfl]; exact e2⟩
theorem IsRR.step {w w1 : World} {ok : Nat → Prop} {v : Value} (h : IsRR w ok v) (hm : ∀ k, ok k → k < w.heap.size → w1.heap[k]? = w.heap[k]?) : IsRR w1 ok v := by
  obtain ⟨A, n, c, rfl, hn, hc⟩ := h
  refine ⟨A, n, c, rfl, hn, fun h0 => ?_⟩
  obtain ⟨g, o, rfl, hg, hf, hj⟩ := hc h0
  obtain ⟨u, e0, _⟩ := hj 0 h0
  have hk := hm g hg (World.block_lt_of_cell? w _ e0)
  refine ⟨g, o, rfl, hg, free_block hk hf, fun j hjn => ?_⟩
  obtain ⟨u, e1, hu⟩ := hj j hjn
  exact ⟨u, by rw [cell_block hk _ rfl]; exact e1, hu.step hm⟩
/-- blocks of the call's own, other than a row's -/
def okl (B : Nat) (v : Value) : Nat → Prop := fun k => B ≤ k ∧ some k ≠ v.ownBlock
theorem IsRR.appended {W w1 : World} {B : Nat} {v0 v1 u : Value} (h : IsRR W (okl B v0) u) (hg : W.grownBy w1 v0.ownBlock) (hat : v1.ownBlock = v0.ownBlock ∨ ∃ b, v1.ownBlock = some b ∧ W.heap.size ≤ b) : IsRR w1 (okl B v1) u := by
  have h1 : IsRR W (fun k => okl B v1 k ∧ some k ≠ v0.ownBlock) u := h.mono fun g hlt hk => ⟨⟨hk.1, fun e => by
    rcases hat with hat | ⟨b, hat, hb⟩
    · exact hk.2 (by rw [e, hat])
    · rw [hat] at e
      have := Option.some.inj e
      omega⟩, hk.2⟩
  have h2 : IsRR w1 (fun k => okl B v1 k ∧ some k ≠ v0.ownBlock) u := h1.step fun k hk hlt => hg.block k hlt hk.2
  exact h2.mono fun g _ hk => hk.1
/-- a row of headers of such rows -/
structure Held (B : Nat) (vl : Value) (rows : List (List Value)) (w0 w : World) : Prop where
  below : RowKit.Below B w0 w
  row : (Kd.raw 1).R 22 w B (fun k => some k = vl.ownBlock) vl rows
  each : ∀ r ∈ rows, ∃ u, r = [u] ∧ IsRR w (okl B vl) u
theorem Held.next {B : Nat} {vl : Value} {rows : List (List Value)} {w0 w w1 : World} (h : Held B vl rows w0 w) (hB : B ≤ w.heap.size) (hb : RowKit.Below w.heap.size w w1) : Held B vl rows w0 w1 :=
  ⟨below_then h.below hB hb, Kd.R_below h.row hb, fun r hr => by
    obtain ⟨u, e, hu⟩ := h.each r hr
    exact ⟨u, e, hu.sim (Sim.below hb)⟩⟩
theorem Held.set {B : Nat} {vl : Value} {rows : List (List Value)} {w0 w : World} {p : Addr} {x y : Value} (h : Held B vl rows w0 w) (hp : okl B vl p.block) (hx : w.cell? p = some x) (ht : Turn x y) : Held B vl rows w0 (w.setCell p y) :=
  ⟨by
    obtain ⟨b, o, s⟩ := p
    exact h.below.setCell hp.1 _, Kd.R_step h.row (fun k hk _ => Below.heap_setCell w p y k (fun e => hp.2 (by rw [← e]; exact hk))), fun r hr => by
    obtain ⟨u, e, hu⟩ := h.each r hr
    exact ⟨u, e, hu.sim (Sim.set hx ht)⟩⟩
theorem cell_other {w : World} {p q : Addr} {x y z : Value} (hx : w.cell? p = some x) (hz : w.cell? q = some z) (hne : x ≠ z) : (w.setCell p y).cell? q = some z := by
  rw [World.cell?_setCell_other _ _ _ _ (fun e => hne (by rw [e, hz] at hx; exact (Option.some.inj hx).symm))]
  exact hz
theorem okl_new {W0 W w' : World} {B : Nat} {ok : Nat → Prop} {v u : Value} {rows : List (List Value)} (h : IsRR w' (fun k => W.heap.size ≤ k) u) (hR : (Kd.raw 1).R 22 W0 B ok v rows) (h0 : W0.heap.size ≤ W.heap.size) (hB : B ≤ W.heap.size) : IsRR w' (okl B v) u :=
  h.mono fun g _ hk => ⟨Nat.le_trans hB hk, fun e => by
    have := Kd.R_lt hR g e.symm
    have h2 : W.heap.size ≤ g := hk
    omega⟩
theorem IsGG.okl {W0 W w' : World} {B : Nat} {ok : Nat → Prop} {v u : Value} {rows : List (List Value)} (h : IsGG w' (fun k => W.heap.size ≤ k) u) (hR : (Kd.raw 1).R 22 W0 B ok v rows) (h0 : W0.heap.size ≤ W.heap.size) (hB : B ≤ W.heap.size) : IsGG w' (okl B v) u := by
  obtain ⟨A, n, c, ys, rfl, hn, hRR, hy⟩ := h
  refine ⟨A, n, c, ys, rfl, hn, hRR, fun r hr => ?_⟩
  obtain ⟨z, e, hz⟩ := hy r hr
  exact ⟨z, e, okl_new hz hR h0 hB⟩
theorem keyLitF {W : World} {g : Nat} (h : W.heap[g]? = some (.cells #[.int .i64 1, .bool false] 36 (0, 0))) : Kd.C k36 W (some ⟨g, 0, none⟩) 1 [(⟨1, false⟩ : S36)] :=
  ⟨rfl, by decide, fun _ => ⟨_, rfl, fun j p hj => by
    have hj0 : j = 0 := by
      have := (List.getElem?_eq_some_iff.1 hj).1
      simpa using this
    subst hj0
    have hp : (⟨1, false⟩ : S36) = p := by simpa using hj
    subst hp
    exact ⟨[.int .i64 1, .bool false], rfl, ⟨[.int .i64 1], [.bool false], rfl, rfl, rfl⟩, fun i u hu => by
      rw [show 0 * (k36).sz + i = i by rw [Nat.zero_mul, Nat.zero_add], add_at, Nat.zero_add, blk_cell h]
      simpa using hu⟩⟩⟩
theorem raw_one (u : Value) (w : World) (h : u.oneCell' = true) : (Kd.raw 1).K w [u] [u] := ⟨rfl, rfl, fun z hz => by rw [List.mem_singleton.1 hz]; exact h⟩
structure Own5 (w : World) (ok : Nat → Prop) (c d x y o : Value) : Prop where
  c : IsRR w ok c
  d : IsRR w ok d
  x : IsRR w ok x
  y : IsRR w ok y
  o : IsRR w ok o
theorem own5 {W w1 : World} {B : Nat} {v0 v1 c d x y o : Value} (hc : IsRR W (okl B v0) c) (hd : IsRR W (okl B v0) d) (hx : IsRR W (okl B v0) x) (hy : IsRR W (okl B v0) y) (ho : IsRR W (okl B v0) o) (hg : W.grownBy w1 v0.ownBlock) (hat : v1.ownBlock = v0.ownBlock ∨ ∃ b, v1.ownBlock = some b ∧ W.heap.size ≤ b) : Own5 w1 (okl B v1) c d x y o :=
  ⟨hc.appended hg hat, hd.appended hg hat, hx.appended hg hat, hy.appended hg hat, ho.appended hg hat⟩
theorem Own5.sim {w w1 : World} {ok : Nat → Prop} {c d x y o : Value} (h : Own5 w ok c d x y o) (s : Sim w w1) : Own5 w1 ok c d x y o := ⟨h.c.sim s, h.d.sim s, h.x.sim s, h.y.sim s, h.o.sim s⟩
theorem held_all {w0 W w1 : World} {B : Nat} {v1 v2 c d x y o : Value} {ys : List (List Value)} (hb : RowKit.Below B w0 w1) (hR : (Kd.raw 1).R 22 w1 B (fun _ => True) v2 ([[c], [d], [x], [y], [o]] ++ ys)) (h5 : Own5 W (okl B v1) c d x y o) (hy : ∀ r ∈ ys, ∃ u, r = [u] ∧ IsRR W (okl B v1) u) (hg : W.grownBy w1 v1.ownBlock) (hat : v2.ownBlock = v1.ownBlock ∨ ∃ b, v2.ownBlock = some b ∧ W.heap.size ≤ b) :
    Held B v2 ([[c], [d], [x], [y], [o]] ++ ys) w0 w1 :=
  ⟨hb, Kd.R_tight rfl hR, fun r hr => by
    rcases List.mem_append.1 hr with h | h
    · simp only [List.mem_cons, List.not_mem_nil, or_false] at h
      rcases h with rfl | rfl | rfl | rfl | rfl
      · exact ⟨_, rfl, h5.c.appended hg hat⟩
      · exact ⟨_, rfl, h5.d.appended hg hat⟩
      · exact ⟨_, rfl, h5.x.appended hg hat⟩
      · exact ⟨_, rfl, h5.y.appended hg hat⟩
      · exact ⟨_, rfl, h5.o.appended hg hat⟩
    · obtain ⟨u, e, hu⟩ := hy r h
      exact ⟨u, e, hu.appended hg hat⟩⟩
theorem Held.cell {B : Nat} {gl nr cl : Nat} {rows : List (List Value)} {w0 w : World} (h : Held B (.slice (some ⟨gl, 0, none⟩) nr cl) rows w0 w) {n : Nat} {u : Value} (hr : rows[n]? = some [u]) : w.cell? ⟨gl, n, none⟩ = some u := by
  have hlt := (List.getElem?_eq_some_iff.1 hr).1
  have h1 := h.row
  obtain ⟨A, c, e, _, _⟩ := Kd.R_reads h1
  injection e with _ e2 _
  obtain ⟨ce, _, hM, hcc, _⟩ := Kd.R_elem h1 [] (n : Int) (by omega) (by omega)
  rw [List.getD_eq_getElem?_getD, Int.toNat_natCast, hr] at hM
  obtain ⟨rfl, _, _⟩ := hM
  have h2 := hcc 0 u rfl
  have e3 : ((n : Int).toNat * (Kd.raw 1).sz + 0) = n := by rw [Int.toNat_natCast]; show n * 1 + 0 = n; omega
  rw [e3] at h2
  exact h2
theorem Held.rr {B : Nat} {vl : Value} {rows : List (List Value)} {w0 w : World} (h : Held B vl rows w0 w) {n : Nat} {u : Value} (hr : rows[n]? = some [u]) : IsRR w (okl B vl) u := by
  obtain ⟨z, e, hz⟩ := h.each _ (List.mem_of_getElem? hr)
  injection e with e1 _
  subst e1
  exact hz
theorem Held.one {B : Nat} {vl : Value} {rows : List (List Value)} {w0 w : World} (h : Held B vl rows w0 w) {n : Nat} (hn : n < rows.length) : ∃ A m c, rows[n]? = some [.slice A m c] ∧ m ≤ 9223372036854775807 := by
  obtain ⟨z, e, hz⟩ := h.each _ (List.getElem_mem hn)
  obtain ⟨A, m, c, rfl, hm, _⟩ := hz
  exact ⟨A, m, c, by rw [List.getElem?_eq_getElem hn, e], hm⟩
theorem IsRR.at {w : World} {ok : Nat → Prop} {A : Option Addr} {n c : Nat} (h : IsRR w ok (.slice A n c)) {j : Nat} (hj : j < n) : ∃ g o A3 n3 c3, A = some ⟨g, o, none⟩ ∧ ok g ∧ Free w g ∧ w.cell? ⟨g, o + j, none⟩ = some (.slice A3 n3 c3) ∧ IsRow w ok (.slice A3 n3 c3) ∧ n3 ≤ 9223372036854775807 := by
  obtain ⟨A', n', c', e, hn, hc⟩ := h
  injection e with e1 e2 e3
  subst e1 e2 e3
  obtain ⟨g, o, rfl, hg, hf, hr⟩ := hc (by omega)
  obtain ⟨u, e0, hu⟩ := hr j hj
  have hu2 := hu
  obtain ⟨A3, n3, c3, rfl, hn3, _⟩ := hu2
  exact ⟨g, o, A3, n3, c3, rfl, hg, hf, e0, hu, hn3⟩
theorem IsRow.at {w : World} {ok : Nat → Prop} {A : Option Addr} {n c : Nat} (h : IsRow w ok (.slice A n c)) {j : Nat} (hj : j < n) : ∃ g a b s, A = some ⟨g, 0, none⟩ ∧ ok g ∧ Free w g ∧ w.cell? ⟨g, j * 3, none⟩ = some (.int .i64 a) ∧ w.cell? ⟨g, j * 3 + 1, none⟩ = some (.int .i64 b) ∧ w.cell? ⟨g, j * 3 + 2, none⟩ = some (.string s) := by
  obtain ⟨A', n', c', e, hn, hc⟩ := h
  injection e with e1 e2 e3
  subst e1 e2 e3
  obtain ⟨g, rfl, hg, hf, hr⟩ := hc (by omega)
  obtain ⟨a, b, s, h0, h1, h2⟩ := hr j hj
  exact ⟨g, a, b, s, rfl, hg, hf, h0, h1, h2⟩
/-- a value is stored: all is held, and each header -/
theorem Held.value {B : Nat} {vl : Value} {rows : List (List Value)} {w0 w : World} {g j : Nat} {a b : Int} {s : ByteArray} (a' b' : Int) (s' : ByteArray) (h : Held B vl rows w0 w) (hg : okl B vl g) (h0 : w.cell? ⟨g, j * 3, none⟩ = some (.int .i64 a)) (h1 : w.cell? ⟨g, j * 3 + 1, none⟩ = some (.int .i64 b)) (h2 : w.cell? ⟨g, j * 3 + 2, none⟩ = some (.string s)) :
    Held B vl rows w0 (((w.setCell ⟨g, j * 3, none⟩ (.int .i64 a')).setCell ⟨g, j * 3 + 1, none⟩ (.int .i64 b')).setCell ⟨g, j * 3 + 2, none⟩ (.string s')) ∧ Sim w (((w.setCell ⟨g, j * 3, none⟩ (.int .i64 a')).setCell ⟨g, j * 3 + 1, none⟩ (.int .i64 b')).setCell ⟨g, j * 3 + 2, none⟩ (.string s')) ∧
      ∀ p A n c, w.cell? p = some (.slice A n c) → (((w.setCell ⟨g, j * 3, none⟩ (.int .i64 a')).setCell ⟨g, j * 3 + 1, none⟩ (.int .i64 b')).setCell ⟨g, j * 3 + 2, none⟩ (.string s')).cell? p = some (.slice A n c) := by
  have k1 : (w.setCell ⟨g, j * 3, none⟩ (.int .i64 a')).cell? ⟨g, j * 3 + 1, none⟩ = some (.int .i64 b) := by
    rw [World.cell?_setCell_other _ _ _ _ (by intro e; injection e with _ e2 _; omega)]; exact h1
  have k2 : ((w.setCell ⟨g, j * 3, none⟩ (.int .i64 a')).setCell ⟨g, j * 3 + 1, none⟩ (.int .i64 b')).cell? ⟨g, j * 3 + 2, none⟩ = some (.string s) := by
    rw [World.cell?_setCell_other _ _ _ _ (by intro e; injection e with _ e2 _; omega), World.cell?_setCell_other _ _ _ _ (by intro e; injection e with _ e2 _; omega)]; exact h2
  refine ⟨((h.set hg h0 (.inr (.inl ⟨_, _, rfl, rfl⟩))).set hg k1 (.inr (.inl ⟨_, _, rfl, rfl⟩))).set hg k2 (.inr (.inr (.inl ⟨_, _, rfl, rfl⟩))), ((Sim.set_int h0).trans (Sim.set_int k1)).trans (Sim.set_str k2), fun p A n c hp => ?_⟩
  have q0 := cell_other (y := .int .i64 a') h0 hp (by intro e; cases e)
  have q1 := cell_other (y := .int .i64 b') k1 q0 (by intro e; cases e)
  exact cell_other (y := .string s') k2 q1 (by intro e; cases e)
end Go.Proofs.YtmhobbdedmjmnaaGreatDoor
end
section
/- Each function reached is shown to return what the plain function beside it computes, wherever that is defined (written by a program of ours for this seat). -/
namespace Go.Proofs.YtmhobbdedmjmnaaGreatDoor.Q
open Go.RowKit Go.Proofs.YtmhobbdedmjmnaaGreatDoorW.PrintWords Go.Proofs.YtmhobbdedmjmnaaGreatDoorW.PrintLast Go.Proofs.YtmhobbdedmjmnaaGreatDoorW.PrintMore
attribute [local go_sem] max2_int min2_int max_two min_two max_three min_three max_four min_four   -- for this text's walks alone
set_option linter.unusedVariables false
set_option linter.unusedSimpArgs false
/-! ### tacticianlaw02_awake: function 18 -/
section
/-- a number, as a value -/
abbrev iV (n : Int) : V := ⟨1, n, ⟨#[]⟩⟩
theorem below_any {w w' : World} (h : Below w.heap.size w w') : Below w.heap.size w w' := h
theorem rowK {W : World} {A : Option Addr} {n c : Nat} {x : List V} (h : Kd.C k61 W A n x) (hc : n ≤ c) : (Kd.slice 61 k61).K W x [.slice A n c] := by
  obtain rfl := h.1
  exact ⟨A, c, rfl, hc, h⟩
theorem rowKnil {W : World} : (Kd.slice 61 k61).K W [] [.slice none 0 0] := ⟨none, 0, rfl, Nat.le_refl _, Kd.C_nil _ _⟩
theorem rowLit1 (n : Int) (W : World) {g : Nat} (hg : g = W.heap.size) : Calls Tryz.prog 57 #[.slice (some ⟨g, 0, none⟩) 1 1] (W.alloc (.cells #[.int .i64 n] 2)) fun e w' => ∃ A c, e = .returned (.slice A 1 c) ∧ 1 ≤ c ∧ Kd.C k61 w' A 1 [iV n] ∧ Below W.heap.size W w' := by
  subst hg
  have hC : Kd.C (Kd.int .i64) (W.alloc (.cells #[.int .i64 n] 2)) (some ⟨W.heap.size, 0, none⟩) 1 [n] := C_lit rfl (blk_new W _) (Reps.one rfl (Reps.none _ _)) (show 1 ≤ 1000 by decide)
  refine (tacticianlaw02_row.calls 3 (some ⟨W.heap.size, 0, none⟩) 1 [n] [iV n] _ hC (Nat.le_refl _) (by simp [tacticianlaw02_row.f, tacticianlaw02_row.l0, tacticianref01_Int.f, rd, iV, wrap64])).mono ?_
  rintro e w' ⟨v, rfl, hv, hb⟩
  obtain ⟨A, c, rfl, h1, h2⟩ := Kd.R_reads hv
  exact ⟨A, c, rfl, h1, h2, below_step (below_alloc (Below.refl _ _) _) hb⟩
theorem rowLit2 (n m : Int) (W : World) {g : Nat} (hg : g = W.heap.size) : Calls Tryz.prog 57 #[.slice (some ⟨g, 0, none⟩) 2 2] (W.alloc (.cells #[.int .i64 n, .int .i64 m] 2)) fun e w' => ∃ A c, e = .returned (.slice A 2 c) ∧ 2 ≤ c ∧ Kd.C k61 w' A 2 [iV n, iV m] ∧ Below W.heap.size W w' := by
  subst hg
  have hC : Kd.C (Kd.int .i64) (W.alloc (.cells #[.int .i64 n, .int .i64 m] 2)) (some ⟨W.heap.size, 0, none⟩) 2 [n, m] := C_lit rfl (blk_new W _) (Reps.one rfl (Reps.one rfl (Reps.none _ _))) (show 2 ≤ 1000 by decide)
  refine (tacticianlaw02_row.calls 4 (some ⟨W.heap.size, 0, none⟩) 2 [n, m] [iV n, iV m] _ hC (Nat.le_refl _) (by simp [tacticianlaw02_row.f, tacticianlaw02_row.l0, tacticianref01_Int.f, rd, iV, wrap64])).mono ?_
  rintro e w' ⟨v, rfl, hv, hb⟩
  obtain ⟨A, c, rfl, h1, h2⟩ := Kd.R_reads hv
  exact ⟨A, c, rfl, h1, h2, below_step (below_alloc (Below.refl _ _) _) hb⟩
theorem keyLit {W : World} (g : Nat) (h : W.heap[g]? = some (.cells #[.int .i64 1, .bool true] 36 (0, 0))) : Kd.C k36 W (some ⟨g, 0, none⟩) 1 [(⟨1, true⟩ : KK)] :=
  ⟨rfl, by decide, fun _ => ⟨_, rfl, fun j p hj => by
    have hj0 : j = 0 := by
      have := (List.getElem?_eq_some_iff.1 hj).1
      simpa using this
    subst hj0
    have hp : (⟨1, true⟩ : KK) = p := by simpa using hj
    subst hp
    exact ⟨[.int .i64 1, .bool true], rfl, ⟨[.int .i64 1], [.bool true], rfl, rfl, rfl⟩, fun i u hu => by
      rw [show 0 * (k36).sz + i = i by rw [Nat.zero_mul, Nat.zero_add], add_at, Nat.zero_add, blk_cell h]
      simpa using hu⟩⟩⟩
theorem keyLit2 (W : World) (x : Obj) : Kd.C k36 ((W.alloc x).alloc (.cells #[.int .i64 1, .bool true] 36)) (some ⟨W.heap.size + 1, 0, none⟩) 1 [(⟨1, true⟩ : KK)] := by
  have h := blk_new (W.alloc x) (.cells #[.int .i64 1, .bool true] 36)
  rw [show (W.alloc x).heap.size = W.heap.size + 1 by simp] at h
  exact keyLit _ h
theorem canR_is {l r : List (List V)} (h1 : r.Perm l) (h2 : r.Pairwise fun a b => leOf cfR a b = true) : canR l = r := (cfR_tc.unique h1 h2).symm
theorem sortK_is (ks : List (Int × Bool)) {l r : List (List V)} (h1 : r.Perm l) (h2 : r.Pairwise fun a b => leOf (cfK ks) a b = true) : sortBy (cfK ks) l = r := ((cfK_tc ks).unique h1 h2).symm
theorem aw_HX : rows_Both.f [[iV 1], [iV 1], [iV 2]] [[iV 1], [iV 3]] true = some ([[iV 1]], 0) := by
  unfold rows_Both.f
  rw [if_pos (by decide +kernel), if_pos (by decide +kernel), if_pos rfl, canR_is (r := [[iV 1]]) (by decide +kernel) (by decide +kernel)]
theorem aw_HY : rows_Minus.f [[iV 1], [iV 1], [iV 2]] [[iV 1], [iV 3]] true = some ([[iV 1], [iV 2]], 0) := by
  unfold rows_Minus.f
  rw [if_pos (by decide +kernel), if_pos (by decide +kernel), if_pos rfl, canR_is (r := [[iV 1], [iV 2]]) (by decide +kernel) (by decide +kernel)]
theorem aw_one : oneR [[iV 1], [iV 1], [iV 2]] = [[iV 1], [iV 2]] := by
  unfold oneR
  rw [canR_is (r := [[iV 1], [iV 1], [iV 2]]) (by decide +kernel) (by decide +kernel)]
  decide +kernel
theorem aw_HZ : rows_Minus.f [[iV 1], [iV 1], [iV 2]] [[iV 1], [iV 3]] false = some ([[iV 2]], 0) := by
  unfold rows_Minus.f
  rw [if_pos (by decide +kernel), if_pos (by decide +kernel), if_neg (by decide), aw_one, canR_is (r := [[iV 2]]) (by decide +kernel) (by decide +kernel)]
theorem aw_HOO : rows_Ordered.f [[iV 1, iV 2], [iV 2, iV 1], [iV 1, iV 1]] [(⟨1, true⟩ : KK)] = some ([[iV 1, iV 2], [iV 1, iV 1], [iV 2, iV 1]], 0) := by
  unfold rows_Ordered.f
  rw [if_pos (by decide +kernel), if_pos (by decide +kernel), if_pos (by decide +kernel), sortK_is _ (r := [[iV 1, iV 2], [iV 1, iV 1], [iV 2, iV 1]]) (by decide +kernel) (by decide +kernel)]
theorem aw_S : rows_String.f [[iV 1, iV 2], []] = some (⟨#[40, 49, 44, 32, 50, 41, 10, 40, 41, 10]⟩, 0) := by
  unfold rows_String.f
  rw [if_pos (by decide +kernel), if_pos (by decide +kernel), if_pos (by decide +kernel)]
  decide +kernel
def tacticianlaw02_awake.f : Option Bool := some true
set_option maxRecDepth 100000 in
set_option maxHeartbeats 8000000 in
theorem tacticianlaw02_awake.calls (r : Bool) (w : World) (hL_ : Laid w) (h : tacticianlaw02_awake.f = some r) :
  Calls Tryz.prog 18 #[] w fun e w' => e = .returned (.bool r) ∧ Below w.heap.size w w' := by
 obtain rfl := Option.some.inj h
 clear h
 have HLD := Aside0.mk hL_
 clear hL_
 have hu36 := Tryz.underlying36
 have HB := Aside0.mk (Below.refl w.heap.size w)
 go_enter Tryz.func18, Tryz.ntmps18
 go_wp2_with fail
 refine (rowLit1 1 (w) (by first | rfl | (go_simp; done) | (go_simp; rfl))).mono ?_
 rintro e w1 ⟨A1, c1, rfl, hl1, hC1, hb1⟩
 have HT := Aside0.mk (below_step HB.out hb1)
 clear HB
 have HB := HT
 clear HT
 have HC1 := Aside0.mk hC1
 have HL1 := Aside0.mk hl1
 clear hC1 hl1 hb1
 go_wp2_with fail
 refine (rowLit1 1 (w1) (by first | rfl | (go_simp; done) | (go_simp; rfl))).mono ?_
 rintro e w2 ⟨A2, c2, rfl, hl2, hC2, hb2⟩
 have HC1_ := Aside0.mk (Kd.C_below HC1.out hb2)
 clear HC1
 have HC1 := HC1_
 clear HC1_
 have HT := Aside0.mk (below_step HB.out hb2)
 clear HB
 have HB := HT
 clear HT
 have HC2 := Aside0.mk hC2
 have HL2 := Aside0.mk hl2
 clear hC2 hl2 hb2
 go_wp2_with fail
 refine (rowLit1 2 (w2) (by first | rfl | (go_simp; done) | (go_simp; rfl))).mono ?_
 rintro e w3 ⟨A3, c3, rfl, hl3, hC3, hb3⟩
 have HC1_ := Aside0.mk (Kd.C_below HC1.out hb3)
 clear HC1
 have HC1 := HC1_
 clear HC1_
 have HC2_ := Aside0.mk (Kd.C_below HC2.out hb3)
 clear HC2
 have HC2 := HC2_
 clear HC2_
 have HT := Aside0.mk (below_step HB.out hb3)
 clear HB
 have HB := HT
 clear HT
 have HC3 := Aside0.mk hC3
 have HL3 := Aside0.mk hl3
 clear hC3 hl3 hb3
 have HC1_ := Aside0.mk (Kd.C_below HC1.out (below_alloc (Below.refl _ _) (.cells #[.slice A1 1 c1, .slice A2 1 c2, .slice A3 1 c3] 40)))
 clear HC1
 have HC1 := HC1_
 clear HC1_
 have HC2_ := Aside0.mk (Kd.C_below HC2.out (below_alloc (Below.refl _ _) (.cells #[.slice A1 1 c1, .slice A2 1 c2, .slice A3 1 c3] 40)))
 clear HC2
 have HC2 := HC2_
 clear HC2_
 have HC3_ := Aside0.mk (Kd.C_below HC3.out (below_alloc (Below.refl _ _) (.cells #[.slice A1 1 c1, .slice A2 1 c2, .slice A3 1 c3] 40)))
 clear HC3
 have HC3 := HC3_
 clear HC3_
 have HA : Aside0 (Kd.C (Kd.slice 61 k61) (w3.alloc (.cells #[.slice A1 1 c1, .slice A2 1 c2, .slice A3 1 c3] 40)) _ 3 [[iV 1], [iV 1], [iV 2]]) := ⟨C_lit rfl (blk_new _ _) (Reps.one (rowK HC1.out HL1.out) (Reps.one (rowK HC2.out HL2.out) (Reps.one (rowK HC3.out HL3.out) (Reps.none _ _)))) (show 3 ≤ 1000 by decide)⟩
 clear HC1 HL1
 clear HC2 HL2
 clear HC3 HL3
 have HT := Aside0.mk (below_alloc HB.out (.cells #[.slice A1 1 c1, .slice A2 1 c2, .slice A3 1 c3] 40))
 clear HB
 have HB := HT
 clear HT
 go_wp2_with fail
 refine (rowLit1 1 (w3.alloc (.cells #[.slice A1 1 c1, .slice A2 1 c2, .slice A3 1 c3] 40)) (by first | rfl | (go_simp; done) | (go_simp; rfl))).mono ?_
 rintro e w4 ⟨A4, c4, rfl, hl4, hC4, hb4⟩
 have HA_ := Aside0.mk (Kd.C_below HA.out hb4)
 clear HA
 have HA := HA_
 clear HA_
 have HT := Aside0.mk (below_step HB.out hb4)
 clear HB
 have HB := HT
 clear HT
 have HC4 := Aside0.mk hC4
 have HL4 := Aside0.mk hl4
 clear hC4 hl4 hb4
 go_wp2_with fail
 refine (rowLit1 3 (w4) (by first | rfl | (go_simp; done) | (go_simp; rfl))).mono ?_
 rintro e w5 ⟨A5, c5, rfl, hl5, hC5, hb5⟩
 have HA_ := Aside0.mk (Kd.C_below HA.out hb5)
 clear HA
 have HA := HA_
 clear HA_
 have HC4_ := Aside0.mk (Kd.C_below HC4.out hb5)
 clear HC4
 have HC4 := HC4_
 clear HC4_
 have HT := Aside0.mk (below_step HB.out hb5)
 clear HB
 have HB := HT
 clear HT
 have HC5 := Aside0.mk hC5
 have HL5 := Aside0.mk hl5
 clear hC5 hl5 hb5
 have HA_ := Aside0.mk (Kd.C_below HA.out (below_alloc (Below.refl _ _) (.cells #[.slice A4 1 c4, .slice A5 1 c5] 40)))
 clear HA
 have HA := HA_
 clear HA_
 have HC4_ := Aside0.mk (Kd.C_below HC4.out (below_alloc (Below.refl _ _) (.cells #[.slice A4 1 c4, .slice A5 1 c5] 40)))
 clear HC4
 have HC4 := HC4_
 clear HC4_
 have HC5_ := Aside0.mk (Kd.C_below HC5.out (below_alloc (Below.refl _ _) (.cells #[.slice A4 1 c4, .slice A5 1 c5] 40)))
 clear HC5
 have HC5 := HC5_
 clear HC5_
 have HBB : Aside0 (Kd.C (Kd.slice 61 k61) (w5.alloc (.cells #[.slice A4 1 c4, .slice A5 1 c5] 40)) _ 2 [[iV 1], [iV 3]]) := ⟨C_lit rfl (blk_new _ _) (Reps.one (rowK HC4.out HL4.out) (Reps.one (rowK HC5.out HL5.out) (Reps.none _ _))) (show 2 ≤ 1000 by decide)⟩
 clear HC4 HL4
 clear HC5 HL5
 have HT := Aside0.mk (below_alloc HB.out (.cells #[.slice A4 1 c4, .slice A5 1 c5] 40))
 clear HB
 have HB := HT
 clear HT
 go_wp2_with fail
 refine (rows_Both.calls _ _ [[iV 1], [iV 1], [iV 2]] _ _ [[iV 1], [iV 3]] true [[iV 1]] 0 _ HA.out (Nat.le_refl _) HBB.out (Nat.le_refl _) (HLD.out.below HB.out) (by exact aw_HX)).mono ?_
 rintro e w6 ⟨v6, rfl, hv6, hb6⟩
 obtain ⟨A6, c6, rfl, hl6, hC6⟩ := Kd.S_reads hv6
 have HA_ := Aside0.mk (Kd.C_below HA.out hb6)
 clear HA
 have HA := HA_
 clear HA_
 have HBB_ := Aside0.mk (Kd.C_below HBB.out hb6)
 clear HBB
 have HBB := HBB_
 clear HBB_
 have HT := Aside0.mk (below_step HB.out hb6)
 clear HB
 have HB := HT
 clear HT
 have HX := Aside0.mk hC6
 have LHX := Aside0.mk hl6
 clear hC6 hl6 hv6 hb6
 go_wp2_with fail
 refine (rows_Minus.calls _ _ [[iV 1], [iV 1], [iV 2]] _ _ [[iV 1], [iV 3]] true [[iV 1], [iV 2]] 0 _ HA.out (Nat.le_refl _) HBB.out (Nat.le_refl _) (HLD.out.below HB.out) (by exact aw_HY)).mono ?_
 rintro e w7 ⟨v7, rfl, hv7, hb7⟩
 obtain ⟨A7, c7, rfl, hl7, hC7⟩ := Kd.S_reads hv7
 have HA_ := Aside0.mk (Kd.C_below HA.out hb7)
 clear HA
 have HA := HA_
 clear HA_
 have HBB_ := Aside0.mk (Kd.C_below HBB.out hb7)
 clear HBB
 have HBB := HBB_
 clear HBB_
 have HX_ := Aside0.mk (Kd.C_below HX.out hb7)
 clear HX
 have HX := HX_
 clear HX_
 have HT := Aside0.mk (below_step HB.out hb7)
 clear HB
 have HB := HT
 clear HT
 have HY := Aside0.mk hC7
 have LHY := Aside0.mk hl7
 clear hC7 hl7 hv7 hb7
 go_wp2_with fail
 refine (rows_Minus.calls _ _ [[iV 1], [iV 1], [iV 2]] _ _ [[iV 1], [iV 3]] false [[iV 2]] 0 _ HA.out (Nat.le_refl _) HBB.out (Nat.le_refl _) (HLD.out.below HB.out) (by exact aw_HZ)).mono ?_
 rintro e w8 ⟨v8, rfl, hv8, hb8⟩
 obtain ⟨A8, c8, rfl, hl8, hC8⟩ := Kd.S_reads hv8
 have HA_ := Aside0.mk (Kd.C_below HA.out hb8)
 clear HA
 have HA := HA_
 clear HA_
 have HBB_ := Aside0.mk (Kd.C_below HBB.out hb8)
 clear HBB
 have HBB := HBB_
 clear HBB_
 have HX_ := Aside0.mk (Kd.C_below HX.out hb8)
 clear HX
 have HX := HX_
 clear HX_
 have HY_ := Aside0.mk (Kd.C_below HY.out hb8)
 clear HY
 have HY := HY_
 clear HY_
 have HT := Aside0.mk (below_step HB.out hb8)
 clear HB
 have HB := HT
 clear HT
 have HZ := Aside0.mk hC8
 have LHZ := Aside0.mk hl8
 clear hC8 hl8 hv8 hb8
 clear HA HBB
 go_wp2_with fail
 refine (rowLit2 1 2 (w8) (by first | rfl | (go_simp; done) | (go_simp; rfl))).mono ?_
 rintro e w9 ⟨A9, c9, rfl, hl9, hC9, hb9⟩
 have HX_ := Aside0.mk (Kd.C_below HX.out hb9)
 clear HX
 have HX := HX_
 clear HX_
 have HY_ := Aside0.mk (Kd.C_below HY.out hb9)
 clear HY
 have HY := HY_
 clear HY_
 have HZ_ := Aside0.mk (Kd.C_below HZ.out hb9)
 clear HZ
 have HZ := HZ_
 clear HZ_
 have HT := Aside0.mk (below_step HB.out hb9)
 clear HB
 have HB := HT
 clear HT
 have HC9 := Aside0.mk hC9
 have HL9 := Aside0.mk hl9
 clear hC9 hl9 hb9
 go_wp2_with fail
 refine (rowLit2 2 1 (w9) (by first | rfl | (go_simp; done) | (go_simp; rfl))).mono ?_
 rintro e w10 ⟨A10, c10, rfl, hl10, hC10, hb10⟩
 have HX_ := Aside0.mk (Kd.C_below HX.out hb10)
 clear HX
 have HX := HX_
 clear HX_
 have HY_ := Aside0.mk (Kd.C_below HY.out hb10)
 clear HY
 have HY := HY_
 clear HY_
 have HZ_ := Aside0.mk (Kd.C_below HZ.out hb10)
 clear HZ
 have HZ := HZ_
 clear HZ_
 have HC9_ := Aside0.mk (Kd.C_below HC9.out hb10)
 clear HC9
 have HC9 := HC9_
 clear HC9_
 have HT := Aside0.mk (below_step HB.out hb10)
 clear HB
 have HB := HT
 clear HT
 have HC10 := Aside0.mk hC10
 have HL10 := Aside0.mk hl10
 clear hC10 hl10 hb10
 go_wp2_with fail
 refine (rowLit2 1 1 (w10) (by first | rfl | (go_simp; done) | (go_simp; rfl))).mono ?_
 rintro e w11 ⟨A11, c11, rfl, hl11, hC11, hb11⟩
 have HX_ := Aside0.mk (Kd.C_below HX.out hb11)
 clear HX
 have HX := HX_
 clear HX_
 have HY_ := Aside0.mk (Kd.C_below HY.out hb11)
 clear HY
 have HY := HY_
 clear HY_
 have HZ_ := Aside0.mk (Kd.C_below HZ.out hb11)
 clear HZ
 have HZ := HZ_
 clear HZ_
 have HC9_ := Aside0.mk (Kd.C_below HC9.out hb11)
 clear HC9
 have HC9 := HC9_
 clear HC9_
 have HC10_ := Aside0.mk (Kd.C_below HC10.out hb11)
 clear HC10
 have HC10 := HC10_
 clear HC10_
 have HT := Aside0.mk (below_step HB.out hb11)
 clear HB
 have HB := HT
 clear HT
 have HC11 := Aside0.mk hC11
 have HL11 := Aside0.mk hl11
 clear hC11 hl11 hb11
 have HX_ := Aside0.mk (Kd.C_below HX.out (below_alloc (Below.refl _ _) (.cells #[.slice A9 2 c9, .slice A10 2 c10, .slice A11 2 c11] 40)))
 clear HX
 have HX := HX_
 clear HX_
 have HY_ := Aside0.mk (Kd.C_below HY.out (below_alloc (Below.refl _ _) (.cells #[.slice A9 2 c9, .slice A10 2 c10, .slice A11 2 c11] 40)))
 clear HY
 have HY := HY_
 clear HY_
 have HZ_ := Aside0.mk (Kd.C_below HZ.out (below_alloc (Below.refl _ _) (.cells #[.slice A9 2 c9, .slice A10 2 c10, .slice A11 2 c11] 40)))
 clear HZ
 have HZ := HZ_
 clear HZ_
 have HC9_ := Aside0.mk (Kd.C_below HC9.out (below_alloc (Below.refl _ _) (.cells #[.slice A9 2 c9, .slice A10 2 c10, .slice A11 2 c11] 40)))
 clear HC9
 have HC9 := HC9_
 clear HC9_
 have HC10_ := Aside0.mk (Kd.C_below HC10.out (below_alloc (Below.refl _ _) (.cells #[.slice A9 2 c9, .slice A10 2 c10, .slice A11 2 c11] 40)))
 clear HC10
 have HC10 := HC10_
 clear HC10_
 have HC11_ := Aside0.mk (Kd.C_below HC11.out (below_alloc (Below.refl _ _) (.cells #[.slice A9 2 c9, .slice A10 2 c10, .slice A11 2 c11] 40)))
 clear HC11
 have HC11 := HC11_
 clear HC11_
 have HO0 : Aside0 (Kd.C (Kd.slice 61 k61) (w11.alloc (.cells #[.slice A9 2 c9, .slice A10 2 c10, .slice A11 2 c11] 40)) _ 3 [[iV 1, iV 2], [iV 2, iV 1], [iV 1, iV 1]]) := ⟨C_lit rfl (blk_new _ _) (Reps.one (rowK HC9.out HL9.out) (Reps.one (rowK HC10.out HL10.out) (Reps.one (rowK HC11.out HL11.out) (Reps.none _ _)))) (show 3 ≤ 1000 by decide)⟩
 clear HC9 HL9
 clear HC10 HL10
 clear HC11 HL11
 have HT := Aside0.mk (below_alloc HB.out (.cells #[.slice A9 2 c9, .slice A10 2 c10, .slice A11 2 c11] 40))
 clear HB
 have HB := HT
 clear HT
 go_wp2_with fail
 have HX_ := Aside0.mk (Kd.C_below HX.out (below_alloc (Below.refl _ _) (.cells #[.int .i64 1, .bool true] 36)))
 clear HX
 have HX := HX_
 clear HX_
 have HY_ := Aside0.mk (Kd.C_below HY.out (below_alloc (Below.refl _ _) (.cells #[.int .i64 1, .bool true] 36)))
 clear HY
 have HY := HY_
 clear HY_
 have HZ_ := Aside0.mk (Kd.C_below HZ.out (below_alloc (Below.refl _ _) (.cells #[.int .i64 1, .bool true] 36)))
 clear HZ
 have HZ := HZ_
 clear HZ_
 have HO0_ := Aside0.mk (Kd.C_below HO0.out (below_alloc (Below.refl _ _) (.cells #[.int .i64 1, .bool true] 36)))
 clear HO0
 have HO0 := HO0_
 clear HO0_
 have HT := Aside0.mk (below_alloc HB.out (.cells #[.int .i64 1, .bool true] 36))
 clear HB
 have HB := HT
 clear HT
 have HKY : Aside0 (Kd.C k36 ((w11.alloc (.cells #[.slice A9 2 c9, .slice A10 2 c10, .slice A11 2 c11] 40)).alloc (.cells #[.int .i64 1, .bool true] 36)) (some ⟨w11.heap.size + 1, 0, none⟩) 1 [(⟨1, true⟩ : KK)]) := ⟨keyLit2 _ _⟩
 refine (rows_Ordered.calls _ _ [[iV 1, iV 2], [iV 2, iV 1], [iV 1, iV 1]] _ _ [(⟨1, true⟩ : KK)] [[iV 1, iV 2], [iV 1, iV 1], [iV 2, iV 1]] 0 _ HO0.out (Nat.le_refl _) HKY.out (Nat.le_refl _) (by exact aw_HOO)).mono ?_
 rintro e w12 ⟨v12, rfl, hv12, hb12⟩
 obtain ⟨A12, c12, rfl, hl12, hC12⟩ := Kd.S_reads hv12
 clear HO0 HKY
 have HX_ := Aside0.mk (Kd.C_below HX.out hb12)
 clear HX
 have HX := HX_
 clear HX_
 have HY_ := Aside0.mk (Kd.C_below HY.out hb12)
 clear HY
 have HY := HY_
 clear HY_
 have HZ_ := Aside0.mk (Kd.C_below HZ.out hb12)
 clear HZ
 have HZ := HZ_
 clear HZ_
 have HT := Aside0.mk (below_step HB.out hb12)
 clear HB
 have HB := HT
 clear HT
 have HOO := Aside0.mk hC12
 have LHOO := Aside0.mk hl12
 clear hC12 hl12 hv12 hb12
 go_wp2_with fail
 refine (rowLit2 1 2 (w12) (by first | rfl | (go_simp; done) | (go_simp; rfl))).mono ?_
 rintro e w13 ⟨A13, c13, rfl, hl13, hC13, hb13⟩
 have HX_ := Aside0.mk (Kd.C_below HX.out hb13)
 clear HX
 have HX := HX_
 clear HX_
 have HY_ := Aside0.mk (Kd.C_below HY.out hb13)
 clear HY
 have HY := HY_
 clear HY_
 have HZ_ := Aside0.mk (Kd.C_below HZ.out hb13)
 clear HZ
 have HZ := HZ_
 clear HZ_
 have HOO_ := Aside0.mk (Kd.C_below HOO.out hb13)
 clear HOO
 have HOO := HOO_
 clear HOO_
 have HT := Aside0.mk (below_step HB.out hb13)
 clear HB
 have HB := HT
 clear HT
 have HC13 := Aside0.mk hC13
 have HL13 := Aside0.mk hl13
 clear hC13 hl13 hb13
 have HX_ := Aside0.mk (Kd.C_below HX.out (below_alloc (Below.refl _ _) (.cells #[.slice A13 2 c13, .slice none 0 0] 40)))
 clear HX
 have HX := HX_
 clear HX_
 have HY_ := Aside0.mk (Kd.C_below HY.out (below_alloc (Below.refl _ _) (.cells #[.slice A13 2 c13, .slice none 0 0] 40)))
 clear HY
 have HY := HY_
 clear HY_
 have HZ_ := Aside0.mk (Kd.C_below HZ.out (below_alloc (Below.refl _ _) (.cells #[.slice A13 2 c13, .slice none 0 0] 40)))
 clear HZ
 have HZ := HZ_
 clear HZ_
 have HOO_ := Aside0.mk (Kd.C_below HOO.out (below_alloc (Below.refl _ _) (.cells #[.slice A13 2 c13, .slice none 0 0] 40)))
 clear HOO
 have HOO := HOO_
 clear HOO_
 have HC13_ := Aside0.mk (Kd.C_below HC13.out (below_alloc (Below.refl _ _) (.cells #[.slice A13 2 c13, .slice none 0 0] 40)))
 clear HC13
 have HC13 := HC13_
 clear HC13_
 have HS0 : Aside0 (Kd.C (Kd.slice 61 k61) (w13.alloc (.cells #[.slice A13 2 c13, .slice none 0 0] 40)) _ 2 [[iV 1, iV 2], []]) := ⟨C_lit rfl (blk_new _ _) (Reps.one (rowK HC13.out HL13.out) (Reps.one rowKnil (Reps.none _ _))) (show 2 ≤ 1000 by decide)⟩
 clear HC13 HL13
 have HT := Aside0.mk (below_alloc HB.out (.cells #[.slice A13 2 c13, .slice none 0 0] 40))
 clear HB
 have HB := HT
 clear HT
 go_wp2_with fail
 refine (rows_String.calls _ _ [[iV 1, iV 2], []] ⟨#[40, 49, 44, 32, 50, 41, 10, 40, 41, 10]⟩ 0 _ HS0.out (Nat.le_refl _) (HLD.out.below HB.out) (by exact aw_S)).mono ?_
 rintro e w14 ⟨rfl, hb14⟩
 clear HS0
 have HX_ := Aside0.mk (Kd.C_below HX.out hb14)
 clear HX
 have HX := HX_
 clear HX_
 have HY_ := Aside0.mk (Kd.C_below HY.out hb14)
 clear HY
 have HY := HY_
 clear HY_
 have HZ_ := Aside0.mk (Kd.C_below HZ.out hb14)
 clear HZ
 have HZ := HZ_
 clear HZ_
 have HOO_ := Aside0.mk (Kd.C_below HOO.out hb14)
 clear HOO
 have HOO := HOO_
 clear HOO_
 have HT := Aside0.mk (below_step HB.out hb14)
 clear HB hb14
 have HB := HT
 clear HT
 go_wp2_with fail
 refine (rowLit1 1 (w14) (by first | rfl | (go_simp; done) | (go_simp; rfl))).mono ?_
 rintro e w15 ⟨A15, c15, rfl, hl15, hC15, hb15⟩
 have HX_ := Aside0.mk (Kd.C_below HX.out hb15)
 clear HX
 have HX := HX_
 clear HX_
 have HY_ := Aside0.mk (Kd.C_below HY.out hb15)
 clear HY
 have HY := HY_
 clear HY_
 have HZ_ := Aside0.mk (Kd.C_below HZ.out hb15)
 clear HZ
 have HZ := HZ_
 clear HZ_
 have HOO_ := Aside0.mk (Kd.C_below HOO.out hb15)
 clear HOO
 have HOO := HOO_
 clear HOO_
 have HT := Aside0.mk (below_step HB.out hb15)
 clear HB
 have HB := HT
 clear HT
 have HC15 := Aside0.mk hC15
 have HL15 := Aside0.mk hl15
 clear hC15 hl15 hb15
 have HX_ := Aside0.mk (Kd.C_below HX.out (below_alloc (Below.refl _ _) (.cells #[.slice A15 1 c15] 40)))
 clear HX
 have HX := HX_
 clear HX_
 have HY_ := Aside0.mk (Kd.C_below HY.out (below_alloc (Below.refl _ _) (.cells #[.slice A15 1 c15] 40)))
 clear HY
 have HY := HY_
 clear HY_
 have HZ_ := Aside0.mk (Kd.C_below HZ.out (below_alloc (Below.refl _ _) (.cells #[.slice A15 1 c15] 40)))
 clear HZ
 have HZ := HZ_
 clear HZ_
 have HOO_ := Aside0.mk (Kd.C_below HOO.out (below_alloc (Below.refl _ _) (.cells #[.slice A15 1 c15] 40)))
 clear HOO
 have HOO := HOO_
 clear HOO_
 have HC15_ := Aside0.mk (Kd.C_below HC15.out (below_alloc (Below.refl _ _) (.cells #[.slice A15 1 c15] 40)))
 clear HC15
 have HC15 := HC15_
 clear HC15_
 have HQ : Aside0 (Kd.C (Kd.slice 61 k61) (w15.alloc (.cells #[.slice A15 1 c15] 40)) _ 1 [[iV 1]]) := ⟨C_lit rfl (blk_new _ _) (Reps.one (rowK HC15.out HL15.out) (Reps.none _ _)) (show 1 ≤ 1000 by decide)⟩
 clear HC15 HL15
 have HT := Aside0.mk (below_alloc HB.out (.cells #[.slice A15 1 c15] 40))
 clear HB
 have HB := HT
 clear HT
 go_wp2_with fail
 refine (tacticianref02_Equal.calls 20 _ _ [[iV 1]] _ _ [[iV 1]] true _ HX.out LHX.out HQ.out (Nat.le_refl _) (by decide +kernel)).mono ?_
 rintro e w16 ⟨rfl, hb16⟩
 replace hb16 := below_any hb16
 clear HQ
 have HX_ := Aside0.mk (Kd.C_below HX.out hb16)
 clear HX
 have HX := HX_
 clear HX_
 have HY_ := Aside0.mk (Kd.C_below HY.out hb16)
 clear HY
 have HY := HY_
 clear HY_
 have HZ_ := Aside0.mk (Kd.C_below HZ.out hb16)
 clear HZ
 have HZ := HZ_
 clear HZ_
 have HOO_ := Aside0.mk (Kd.C_below HOO.out hb16)
 clear HOO
 have HOO := HOO_
 clear HOO_
 have HT := Aside0.mk (below_step HB.out hb16)
 clear HB hb16
 have HB := HT
 clear HT
 clear HX LHX
 go_wp2_with fail
 refine (rowLit1 1 (w16) (by first | rfl | (go_simp; done) | (go_simp; rfl))).mono ?_
 rintro e w17 ⟨A17, c17, rfl, hl17, hC17, hb17⟩
 have HY_ := Aside0.mk (Kd.C_below HY.out hb17)
 clear HY
 have HY := HY_
 clear HY_
 have HZ_ := Aside0.mk (Kd.C_below HZ.out hb17)
 clear HZ
 have HZ := HZ_
 clear HZ_
 have HOO_ := Aside0.mk (Kd.C_below HOO.out hb17)
 clear HOO
 have HOO := HOO_
 clear HOO_
 have HT := Aside0.mk (below_step HB.out hb17)
 clear HB
 have HB := HT
 clear HT
 have HC17 := Aside0.mk hC17
 have HL17 := Aside0.mk hl17
 clear hC17 hl17 hb17
 go_wp2_with fail
 refine (rowLit1 2 (w17) (by first | rfl | (go_simp; done) | (go_simp; rfl))).mono ?_
 rintro e w18 ⟨A18, c18, rfl, hl18, hC18, hb18⟩
 have HY_ := Aside0.mk (Kd.C_below HY.out hb18)
 clear HY
 have HY := HY_
 clear HY_
 have HZ_ := Aside0.mk (Kd.C_below HZ.out hb18)
 clear HZ
 have HZ := HZ_
 clear HZ_
 have HOO_ := Aside0.mk (Kd.C_below HOO.out hb18)
 clear HOO
 have HOO := HOO_
 clear HOO_
 have HC17_ := Aside0.mk (Kd.C_below HC17.out hb18)
 clear HC17
 have HC17 := HC17_
 clear HC17_
 have HT := Aside0.mk (below_step HB.out hb18)
 clear HB
 have HB := HT
 clear HT
 have HC18 := Aside0.mk hC18
 have HL18 := Aside0.mk hl18
 clear hC18 hl18 hb18
 have HY_ := Aside0.mk (Kd.C_below HY.out (below_alloc (Below.refl _ _) (.cells #[.slice A17 1 c17, .slice A18 1 c18] 40)))
 clear HY
 have HY := HY_
 clear HY_
 have HZ_ := Aside0.mk (Kd.C_below HZ.out (below_alloc (Below.refl _ _) (.cells #[.slice A17 1 c17, .slice A18 1 c18] 40)))
 clear HZ
 have HZ := HZ_
 clear HZ_
 have HOO_ := Aside0.mk (Kd.C_below HOO.out (below_alloc (Below.refl _ _) (.cells #[.slice A17 1 c17, .slice A18 1 c18] 40)))
 clear HOO
 have HOO := HOO_
 clear HOO_
 have HC17_ := Aside0.mk (Kd.C_below HC17.out (below_alloc (Below.refl _ _) (.cells #[.slice A17 1 c17, .slice A18 1 c18] 40)))
 clear HC17
 have HC17 := HC17_
 clear HC17_
 have HC18_ := Aside0.mk (Kd.C_below HC18.out (below_alloc (Below.refl _ _) (.cells #[.slice A17 1 c17, .slice A18 1 c18] 40)))
 clear HC18
 have HC18 := HC18_
 clear HC18_
 have HQ : Aside0 (Kd.C (Kd.slice 61 k61) (w18.alloc (.cells #[.slice A17 1 c17, .slice A18 1 c18] 40)) _ 2 [[iV 1], [iV 2]]) := ⟨C_lit rfl (blk_new _ _) (Reps.one (rowK HC17.out HL17.out) (Reps.one (rowK HC18.out HL18.out) (Reps.none _ _))) (show 2 ≤ 1000 by decide)⟩
 clear HC17 HL17
 clear HC18 HL18
 have HT := Aside0.mk (below_alloc HB.out (.cells #[.slice A17 1 c17, .slice A18 1 c18] 40))
 clear HB
 have HB := HT
 clear HT
 go_wp2_with fail
 refine (tacticianref02_Equal.calls 20 _ _ [[iV 1], [iV 2]] _ _ [[iV 1], [iV 2]] true _ HY.out LHY.out HQ.out (Nat.le_refl _) (by decide +kernel)).mono ?_
 rintro e w19 ⟨rfl, hb19⟩
 replace hb19 := below_any hb19
 clear HQ
 have HY_ := Aside0.mk (Kd.C_below HY.out hb19)
 clear HY
 have HY := HY_
 clear HY_
 have HZ_ := Aside0.mk (Kd.C_below HZ.out hb19)
 clear HZ
 have HZ := HZ_
 clear HZ_
 have HOO_ := Aside0.mk (Kd.C_below HOO.out hb19)
 clear HOO
 have HOO := HOO_
 clear HOO_
 have HT := Aside0.mk (below_step HB.out hb19)
 clear HB hb19
 have HB := HT
 clear HT
 clear HY LHY
 go_wp2_with fail
 refine (rowLit1 2 (w19) (by first | rfl | (go_simp; done) | (go_simp; rfl))).mono ?_
 rintro e w20 ⟨A20, c20, rfl, hl20, hC20, hb20⟩
 have HZ_ := Aside0.mk (Kd.C_below HZ.out hb20)
 clear HZ
 have HZ := HZ_
 clear HZ_
 have HOO_ := Aside0.mk (Kd.C_below HOO.out hb20)
 clear HOO
 have HOO := HOO_
 clear HOO_
 have HT := Aside0.mk (below_step HB.out hb20)
 clear HB
 have HB := HT
 clear HT
 have HC20 := Aside0.mk hC20
 have HL20 := Aside0.mk hl20
 clear hC20 hl20 hb20
 have HZ_ := Aside0.mk (Kd.C_below HZ.out (below_alloc (Below.refl _ _) (.cells #[.slice A20 1 c20] 40)))
 clear HZ
 have HZ := HZ_
 clear HZ_
 have HOO_ := Aside0.mk (Kd.C_below HOO.out (below_alloc (Below.refl _ _) (.cells #[.slice A20 1 c20] 40)))
 clear HOO
 have HOO := HOO_
 clear HOO_
 have HC20_ := Aside0.mk (Kd.C_below HC20.out (below_alloc (Below.refl _ _) (.cells #[.slice A20 1 c20] 40)))
 clear HC20
 have HC20 := HC20_
 clear HC20_
 have HQ : Aside0 (Kd.C (Kd.slice 61 k61) (w20.alloc (.cells #[.slice A20 1 c20] 40)) _ 1 [[iV 2]]) := ⟨C_lit rfl (blk_new _ _) (Reps.one (rowK HC20.out HL20.out) (Reps.none _ _)) (show 1 ≤ 1000 by decide)⟩
 clear HC20 HL20
 have HT := Aside0.mk (below_alloc HB.out (.cells #[.slice A20 1 c20] 40))
 clear HB
 have HB := HT
 clear HT
 go_wp2_with fail
 refine (tacticianref02_Equal.calls 20 _ _ [[iV 2]] _ _ [[iV 2]] true _ HZ.out LHZ.out HQ.out (Nat.le_refl _) (by decide +kernel)).mono ?_
 rintro e w21 ⟨rfl, hb21⟩
 replace hb21 := below_any hb21
 clear HQ
 have HZ_ := Aside0.mk (Kd.C_below HZ.out hb21)
 clear HZ
 have HZ := HZ_
 clear HZ_
 have HOO_ := Aside0.mk (Kd.C_below HOO.out hb21)
 clear HOO
 have HOO := HOO_
 clear HOO_
 have HT := Aside0.mk (below_step HB.out hb21)
 clear HB hb21
 have HB := HT
 clear HT
 clear HZ LHZ
 go_wp2_with fail
 refine (rowLit2 1 2 (w21) (by first | rfl | (go_simp; done) | (go_simp; rfl))).mono ?_
 rintro e w22 ⟨A22, c22, rfl, hl22, hC22, hb22⟩
 have HOO_ := Aside0.mk (Kd.C_below HOO.out hb22)
 clear HOO
 have HOO := HOO_
 clear HOO_
 have HT := Aside0.mk (below_step HB.out hb22)
 clear HB
 have HB := HT
 clear HT
 have HC22 := Aside0.mk hC22
 have HL22 := Aside0.mk hl22
 clear hC22 hl22 hb22
 go_wp2_with fail
 refine (rowLit2 1 1 (w22) (by first | rfl | (go_simp; done) | (go_simp; rfl))).mono ?_
 rintro e w23 ⟨A23, c23, rfl, hl23, hC23, hb23⟩
 have HOO_ := Aside0.mk (Kd.C_below HOO.out hb23)
 clear HOO
 have HOO := HOO_
 clear HOO_
 have HC22_ := Aside0.mk (Kd.C_below HC22.out hb23)
 clear HC22
 have HC22 := HC22_
 clear HC22_
 have HT := Aside0.mk (below_step HB.out hb23)
 clear HB
 have HB := HT
 clear HT
 have HC23 := Aside0.mk hC23
 have HL23 := Aside0.mk hl23
 clear hC23 hl23 hb23
 go_wp2_with fail
 refine (rowLit2 2 1 (w23) (by first | rfl | (go_simp; done) | (go_simp; rfl))).mono ?_
 rintro e w24 ⟨A24, c24, rfl, hl24, hC24, hb24⟩
 have HOO_ := Aside0.mk (Kd.C_below HOO.out hb24)
 clear HOO
 have HOO := HOO_
 clear HOO_
 have HC22_ := Aside0.mk (Kd.C_below HC22.out hb24)
 clear HC22
 have HC22 := HC22_
 clear HC22_
 have HC23_ := Aside0.mk (Kd.C_below HC23.out hb24)
 clear HC23
 have HC23 := HC23_
 clear HC23_
 have HT := Aside0.mk (below_step HB.out hb24)
 clear HB
 have HB := HT
 clear HT
 have HC24 := Aside0.mk hC24
 have HL24 := Aside0.mk hl24
 clear hC24 hl24 hb24
 have HOO_ := Aside0.mk (Kd.C_below HOO.out (below_alloc (Below.refl _ _) (.cells #[.slice A22 2 c22, .slice A23 2 c23, .slice A24 2 c24] 40)))
 clear HOO
 have HOO := HOO_
 clear HOO_
 have HC22_ := Aside0.mk (Kd.C_below HC22.out (below_alloc (Below.refl _ _) (.cells #[.slice A22 2 c22, .slice A23 2 c23, .slice A24 2 c24] 40)))
 clear HC22
 have HC22 := HC22_
 clear HC22_
 have HC23_ := Aside0.mk (Kd.C_below HC23.out (below_alloc (Below.refl _ _) (.cells #[.slice A22 2 c22, .slice A23 2 c23, .slice A24 2 c24] 40)))
 clear HC23
 have HC23 := HC23_
 clear HC23_
 have HC24_ := Aside0.mk (Kd.C_below HC24.out (below_alloc (Below.refl _ _) (.cells #[.slice A22 2 c22, .slice A23 2 c23, .slice A24 2 c24] 40)))
 clear HC24
 have HC24 := HC24_
 clear HC24_
 have HQ : Aside0 (Kd.C (Kd.slice 61 k61) (w24.alloc (.cells #[.slice A22 2 c22, .slice A23 2 c23, .slice A24 2 c24] 40)) _ 3 [[iV 1, iV 2], [iV 1, iV 1], [iV 2, iV 1]]) := ⟨C_lit rfl (blk_new _ _) (Reps.one (rowK HC22.out HL22.out) (Reps.one (rowK HC23.out HL23.out) (Reps.one (rowK HC24.out HL24.out) (Reps.none _ _)))) (show 3 ≤ 1000 by decide)⟩
 clear HC22 HL22
 clear HC23 HL23
 clear HC24 HL24
 have HT := Aside0.mk (below_alloc HB.out (.cells #[.slice A22 2 c22, .slice A23 2 c23, .slice A24 2 c24] 40))
 clear HB
 have HB := HT
 clear HT
 go_wp2_with fail
 refine (tacticianref02_Equal.calls 20 _ _ [[iV 1, iV 2], [iV 1, iV 1], [iV 2, iV 1]] _ _ [[iV 1, iV 2], [iV 1, iV 1], [iV 2, iV 1]] true _ HOO.out LHOO.out HQ.out (Nat.le_refl _) (by decide +kernel)).mono ?_
 rintro e w25 ⟨rfl, hb25⟩
 replace hb25 := below_any hb25
 clear HQ
 have HOO_ := Aside0.mk (Kd.C_below HOO.out hb25)
 clear HOO
 have HOO := HOO_
 clear HOO_
 have HT := Aside0.mk (below_step HB.out hb25)
 clear HB hb25
 have HB := HT
 clear HT
 clear HOO LHOO
 go_wp2
 go_ret
 exact ⟨rfl, HB.out⟩
end
end Go.Proofs.YtmhobbdedmjmnaaGreatDoor.Q
end
section
/- A slice that is made, a cell that is set: the count of draws does not fall. -/
namespace Go.Proofs.YtmhobbdedmjmnaaGreatDoor
open Go.RowKit Go.Proofs.YtmhobbdedmjmnaaGreatDoor.Q Go.Proofs.YtmhobbdedmjmnaaGreatDoorW.PrintWords Go.Proofs.YtmhobbdedmjmnaaGreatDoorW.PrintLast Go.Proofs.YtmhobbdedmjmnaaGreatDoorW.PrintMore
theorem BelowD.cell {B : Nat} {w w' : World} (h : BelowD B w w') {p : Addr} (hp : p.block < B) : w'.cell? p = w.cell? p := h.b.cell hp
section
variable {P : Program} {ops : Array Oper} {rest : List Oper} {o : Oper} {a : Act} {Q : Exit → Act → World → Prop}
theorem setD {w W : World} {g j : Nat} {v : Value} (h : BelowD w.heap.size w W) (hg : w.heap.size ≤ g) : BelowD w.heap.size w (W.setCell ⟨g, j, none⟩ v) := ⟨below_set h.b hg, h.d⟩
theorem makeD {α : Type} (d : Kd α) {W : World} (base e : Nat) (hgd : o.guard = none) {N : Tmp} (_hd : o.dst = some N) (t : TypeId) (x y : Operand) (ho : o.op = .makeSlice t x y) (n : Int) (hx : a.eval x = .int .i64 n) (hy : a.eval y = .int .i64 n)
    (ht : P.underlying t = some (.slice e)) (z : Value) (bytes : Nat) (hinfo : (P.info? e).map (fun i => (i.zero, i.size, i.bytes)) = some (some z, d.sz, bytes)) (hz : z.cells.size = d.sz) (hs0 : 0 < d.sz) (hb0 : 0 < bytes)
    (z0 : α) {ok okp : Nat → Prop} (hzero : d.M W base okp z0 z.cells.toList) (hok : ∀ k, okp k → ok k) (hfresh : ok W.heap.size) (h0 : 0 ≤ n) (hl : n.toNat * bytes ≤ 281474976710656) (HB : BelowD W.heap.size W W) (hbase : base ≤ W.heap.size)
    (h : ∀ v1 w1, d.R e w1 base ok v1 (List.replicate n.toNat z0) → BelowD W.heap.size W w1 → W.grownBy w1 none → (∃ b, v1.ownBlock = some b ∧ W.heap.size ≤ b) → wpList P ops Q rest (a.put o.dst v1) w1) : wpList P ops Q (o :: rest) a W := by
  obtain ⟨m, rfl⟩ := Int.eq_ofNat_of_zero_le h0
  simp only [Int.toNat_natCast] at hl h
  obtain ⟨i0, hi, hzz⟩ := Option.map_eq_some_iff.1 hinfo
  simp only [Prod.mk.injEq] at hzz
  obtain ⟨hz0, hz1, hz2⟩ := hzz
  have hm : m ≤ 281474976710656 := Nat.le_trans (Nat.le_mul_of_pos_right _ hb0) hl
  have hr := run_make (P := P) W t e i0 z ht hi hz0 .i64 .i64 (m : Int) (m : Int) (by omega) (by omega)
    (by
      have h3 : ((i0.bytes * m : Nat) : Int) ≤ 281474976710656 := by rw [hz2, Nat.mul_comm]; omega
      rwa [Int.natCast_mul] at h3) (by omega)
  simp only [Int.toNat_natCast] at hr
  rw [hz1] at hr
  have hrep := Kd.reps_made (m := m) hz hs0 hzero
  refine Kd.event_run hgd (v := .slice (some ⟨W.heap.size, 0, none⟩) m m) (w1 := W.alloc (.cells (madeCells z.cells (m * d.sz)) e)) (by simp [execOp, ho, hx, hy, hr]) ?_
  refine h _ _ ⟨fun k hk => ?_, (madeCells z.cells (m * d.sz)).toList, ?_, ?_⟩ (dA HB _) (World.grownBy_alloc W _ none) ⟨W.heap.size, by simp [Value.ownBlock], Nat.le_refl _⟩
  · have : W.heap.size = k := by simpa [Value.ownBlock] using hk
    subst this
    exact hfresh
  · have h2 := World.ownsRow_lit (base := base) (e := e) (size := d.sz) W (madeCells z.cells (m * d.sz)) m hbase (by simp [maxLen]; omega) (by simpa using hrep.1)
    simpa using h2
  · refine hrep.imp_ (fun p c hp => d.M_mono (fun k hk => ⟨hok k hk.1, fun he => ?_⟩) (Kd.M_below (d.M_bound hp) (below_alloc (Below.refl _ _) _)))
    have h3 : k = W.heap.size := by simpa [Value.ownBlock] using he
    have := hk.2.2.1
    omega
end
end Go.Proofs.YtmhobbdedmjmnaaGreatDoor
end
