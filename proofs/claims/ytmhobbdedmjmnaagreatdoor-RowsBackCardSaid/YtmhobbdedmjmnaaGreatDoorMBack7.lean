/- Lemmas for the claim: contracts of functions and facts about what they compute, part 8 (texts put together, and cut down to what is used, by a program of ours). -/
import Derived.ProofKit
import Derived.SizedLaws
import Derived.Deep.Slices
import Derived.Deep.Strs
import Derived.Test.YtmhobbdedmjmnaaGreatDoorMBack6
section
/- Each function reached is shown to return what the plain function beside it computes, wherever that is defined (written by a program of ours for this seat). -/
namespace Go.Proofs.YtmhobbdedmjmnaaGreatDoor.Q
open Go.RowKit Go.Proofs.YtmhobbdedmjmnaaGreatDoorW.PrintWords Go.Proofs.YtmhobbdedmjmnaaGreatDoorW.PrintLast Go.Proofs.YtmhobbdedmjmnaaGreatDoorW.PrintMore
attribute [local go_sem] max2_int min2_int max_two min_two max_three min_three max_four min_four   -- for this text's walks alone
set_option linter.unusedVariables false
set_option linter.unusedSimpArgs false
mutual
def tacticianref02_TameRows.l0 : Nat → List (S88) → List (List (S61)) → Int → List (List (S61)) → Int → Option ((List (List (S61))))
  | 0, _, _, _, _, _ => none
  | k + 1, x0, x1, x2, x7, x8 => if x8 < (x1.length : Int) then (tacticianref02_TameRows.j1 k x0 x1 x2 x7 x8 (decide (x8 < x2))) else (tacticianref02_TameRows.j1 k x0 x1 x2 x7 x8 false)
def tacticianref02_TameRows.j1 : Nat → List (S88) → List (List (S61)) → Int → List (List (S61)) → Int → Bool → Option ((List (List (S61))))
  | 0, _, _, _, _, _, _ => none
  | k + 1, x0, x1, x2, x7, x8, x20 => if x20 = true then (tacticianref02_TameRows.l1 k x0 x1 x2 x7 x8 ([] : List (S61)) 0) else (some x7)
def tacticianref02_TameRows.l1 : Nat → List (S88) → List (List (S61)) → Int → List (List (S61)) → Int → List (S61) → Int → Option ((List (List (S61))))
  | 0, _, _, _, _, _, _, _ => none
  | k + 1, x0, x1, x2, x7, x8, x9, x10 => if x10 < (x0.length : Int) then (if 0 ≤ x8 then (if x8 < (x1.length : Int) then (if ((rd_L3 x1 x8).length : Int) > 0 then (if ((rd_L3 x1 x8).length : Int) = 0 then (none) else (if 0 ≤ (Int.tmod x10 ((rd_L3 x1 x8).length : Int)) then (if (Int.tmod x10 ((rd_L3 x1 x8).length : Int)) < ((rd_L3 x1 x8).length : Int) then (if 0 ≤ x10 then ((tacticianref01_TameAs.f k ((rd_T61 (rd_L3 x1 x8) (Int.tmod x10 ((rd_L3 x1 x8).length : Int))).f0) (wrap64 (((rd_T61 (rd_L3 x1 x8) (Int.tmod x10 ((rd_L3 x1 x8).length : Int))).f1) + (wrap64 (Int.tdiv x10 ((rd_L3 x1 x8).length : Int))))) ((rd_T61 (rd_L3 x1 x8) (Int.tmod x10 ((rd_L3 x1 x8).length : Int))).f2) ((rd_T88 x0 x10).f0) ((rd_T88 x0 x10).f1)).bind fun bt558 => (if x9.length < 4398046511104 then (tacticianref02_TameRows.l1 k x0 x1 x2 x7 x8 (x9 ++ [(⟨bt558.1, bt558.2.1, bt558.2.2⟩ : S61)]) (wrap64 (x10 + 1))) else (none))) else (none)) else (none)) else (none))) else (if 0 ≤ x10 then ((tacticianref01_TameAs.f k 0 0 (⟨#[]⟩ : ByteArray) ((rd_T88 x0 x10).f0) ((rd_T88 x0 x10).f1)).bind fun bt565 => (if x9.length < 4398046511104 then (tacticianref02_TameRows.l1 k x0 x1 x2 x7 x8 (x9 ++ [(⟨bt565.1, bt565.2.1, bt565.2.2⟩ : S61)]) (wrap64 (x10 + 1))) else (none))) else (none))) else (none)) else (none)) else (if x7.length < 5864062014805 then (tacticianref02_TameRows.l0 k x0 x1 x2 (x7 ++ [x9]) (wrap64 (x8 + 1))) else (none))
end
def tacticianref02_TameRows.f (k : Nat) (l0 : List (S88)) (l1 : List (List (S61))) (a2 : Int) : Option ((List (List (S61)))) := tacticianref02_TameRows.l0 k l0 l1 a2 ([] : List (List (S61))) 0
def tacticianref02_TameRows.T11 : Bool × List (List Nat × List Nat) := (true, [([], []), ([], []), ([0, 1], [0, 1]), ([2], [2]), ([], []), ([], []), ([], []), ([5, 6], [5, 6]), ([7], [7]), ([8], [8]), ([4, 9], [4, 9]), ([3, 10], [3, 10]), ([11], [11]), ([12, 0, 1, 2, 3, 4, 5, 6, 7, 8, 9, 10, 11, 12], [12])])
def tacticianref02_TameRows.B11 : List Nat := [0, 0, 3, 7, 0, 0, 0, 96, 224, 480, 1008, 2047, 4095, 8191]
theorem tacticianref02_TameRows.tab11 : rtab .any (opsOf Tryz.f73 11) = tacticianref02_TameRows.T11 := by kernel_rfl
theorem tacticianref02_TameRows.bits11 : waitsOk tacticianref02_TameRows.T11.2 tacticianref02_TameRows.B11 = true := by kernel_rfl
def tacticianref02_TameRows.T12 : Bool × List (List Nat × List Nat) := (true, [([], []), ([0], [0]), ([], []), ([], []), ([], []), ([3, 4], [3, 4]), ([5], [5]), ([6], [6]), ([2, 7], [2, 7]), ([1, 8], [1, 8]), ([0, 1, 2, 3, 4, 5, 6, 7, 8, 9], []), ([10, 9, 0, 1, 2, 3, 4, 5, 6, 7, 8, 9], [9, 10])])
def tacticianref02_TameRows.B12 : List Nat := [0, 1, 0, 0, 0, 24, 56, 120, 252, 511, 1023, 2047]
theorem tacticianref02_TameRows.tab12 : rtab .any (opsOf Tryz.f73 12) = tacticianref02_TameRows.T12 := by kernel_rfl
theorem tacticianref02_TameRows.bits12 : waitsOk tacticianref02_TameRows.T12.2 tacticianref02_TameRows.B12 = true := by kernel_rfl
def tacticianref02_TameRows.T13 : Bool × List (List Nat × List Nat) := (true, [([], []), ([], []), ([], []), ([], []), ([2, 3], [2, 3]), ([4], [4]), ([1, 5], [1, 5]), ([6], [6]), ([0, 7, 6], [0, 7]), ([8, 8, 0, 1, 2, 3, 4, 5, 6, 7, 8], [0, 8])])
def tacticianref02_TameRows.B13 : List Nat := [0, 0, 0, 0, 12, 28, 62, 126, 255, 511]
theorem tacticianref02_TameRows.tab13 : rtab .any (opsOf Tryz.f73 13) = tacticianref02_TameRows.T13 := by kernel_rfl
theorem tacticianref02_TameRows.bits13 : waitsOk tacticianref02_TameRows.T13.2 tacticianref02_TameRows.B13 = true := by kernel_rfl
set_option maxHeartbeats 8000000 in
set_option maxRecDepth 100000 in
theorem tacticianref02_TameRows.calls (k : Nat) (A0 : Option Addr) (c0 : Nat) (l0 : List (S88)) (A1 : Option Addr) (c1 : Nat) (l1 : List (List (S61))) (a2 : Int) (r : List (List (S61))) (w : World) (hr0 : Kd.C k88 w A0 l0.length l0) (hc0 : l0.length ≤ c0) (hr1 : Kd.C (Kd.slice 61 k61) w A1 l1.length l1) (hc1 : l1.length ≤ c1) (h : tacticianref02_TameRows.f k l0 l1 a2 = some r) :
  Calls Tryz.prog 73 #[.slice A0 l0.length c0, .slice A1 l1.length c1, .int .i64 a2] w fun e w' => ∃ v0_ : Value, e = .returned (v0_) ∧ Kd.S (Kd.slice 61 k61) 40 w' w.heap.size (fun _ => True) v0_ r ∧ Below w.heap.size w w' := by
 have hu61 := Tryz.underlying61
 have hu88 := Tryz.underlying88
 have HR0 := Aside0.mk hr0
 have HC0 := Aside0.mk hc0
 clear hr0 hc0
 have HR1 := Aside0.mk hr1
 have HC1 := Aside0.mk hc1
 clear hr1 hc1
 have HB := Aside0.mk (Below.refl w.heap.size w)
 have H : (tacticianref02_TameRows.l0 k l0 l1 a2 ([] : List (List (S61))) 0) = some r := h
 clear h
 have H' := Aside0.mk H
 clear H
 go_enter Tryz.func73, Tryz.ntmps73
 go_wp2
 go_loopg [7, 8] k (fun kq v7 v8 w' => ∃ (x7_1 : List (List (S61))) (x8_1 : Int), v8 = .int .i64 x8_1 ∧ Aside0 (tacticianref02_TameRows.l0 kq l0 l1 a2 x7_1 x8_1 = some r) ∧ Aside0 (kq ≤ k) ∧ Aside0 (Kd.S (Kd.slice 61 k61) 40 w' w.heap.size (fun _ => True) v7 x7_1) ∧ Aside0 (Below w.heap.size w w'))
 case atStart => exact ⟨(([] : List (List (S61)))), (0), (by first | rfl | (simp; done) | (simp [*]; done)), H', ⟨Nat.le_refl _⟩, ⟨by first | exact Kd.S_nil _ _ _ _ _ | exact Kd.N_nil _ _ _ _ _ | exact Kd.V_nil _ _ _ _ _ | exact Kd.Q_nil _ _ _ _ _ | exact Kd.R_nil _ _ _ _ _⟩, ⟨by repeat (first | (with_reducible first | exact HB.out | apply yA | apply yN | apply yD) | exact HB.out)⟩⟩
 case round =>
  clear H'
  try clear c1
  try clear p2
  obtain ⟨x7_1, x8_1, rfl, HA, HK1, HO_7, HB⟩ := hrel
  cases gk with
  | zero => exact absurd HA.out (by simp [tacticianref02_TameRows.l0])
  | succ k1 =>
   have H := HA.out
   clear HA
   simp only [tacticianref02_TameRows.l0] at H
   have HC4 := Aside0.mk H
   clear H
   go_upto_region 3 with (fail)
   go_cut [20] (fun v20 wc => ∃ (kq : Nat) (x20_3 : Bool), v20 = .bool x20_3 ∧ Aside0 (tacticianref02_TameRows.j1 kq l0 l1 a2 x7_1 x8_1 x20_3 = some r) ∧ Aside0 (kq ≤ k1) ∧ Aside0 (Kd.S (Kd.slice 61 k61) 40 wc w.heap.size (fun _ => True) u7 x7_1) ∧ Aside0 (Below w.heap.size w wc))
   case first =>
    have H := HC4.out
    clear HC4
    by_cases c5 : x8_1 < (l1.length : Int)
    ·rw [if_pos c5] at H
     have c5b0 : decide (x8_1 < (l1.length : Int)) = true := decide_eq_true c5
     clear c5
     (first | rw [c5b0] | (simp only [i64_w, i32_w]; rw [c5b0]) | skip)
     have H' := Aside0.mk H
     clear H
     go_wp2
     go_meet
     case rel => exact ⟨_, (decide (x8_1 < a2)), (by first | rfl | (simp; done) | (simp [*]; done)), H', ⟨by have := HK1.out; first | omega | exact Nat.le_refl _⟩, ⟨by (with_reducible repeat (first | apply Kd.S_alloc | apply Kd.S_drewN | apply Kd.S_drew)); exact HO_7.out⟩, ⟨by repeat (first | (with_reducible first | exact HB.out | apply yA | apply yN | apply yD) | exact HB.out)⟩⟩
    ·rw [if_neg c5] at H
     have c5b0 : decide (x8_1 < (l1.length : Int)) = false := decide_eq_false c5
     clear c5
     (first | rw [c5b0] | (simp only [i64_w, i32_w]; rw [c5b0]) | skip)
     have H' := Aside0.mk H
     clear H
     go_wp2
     go_meet
     case rel => exact ⟨_, (false), (by first | rfl | (simp; done) | (simp [*]; done)), H', ⟨by have := HK1.out; first | omega | exact Nat.le_refl _⟩, ⟨by (with_reducible repeat (first | apply Kd.S_alloc | apply Kd.S_drewN | apply Kd.S_drew)); exact HO_7.out⟩, ⟨by repeat (first | (with_reducible first | exact HB.out | apply yA | apply yN | apply yD) | exact HB.out)⟩⟩
   case rest =>
    clear HC4
    try clear c1
    try clear p2
    try clear c5
    try clear c5b0
    try clear p2
    obtain ⟨kq, x20_3, rfl, HA, HJ3, HO_7, HB⟩ := hcut
    cases kq with
    | zero => exact absurd HA.out (by simp [tacticianref02_TameRows.j1])
    | succ kj3 =>
     have H := HA.out
     clear HA
     simp only [tacticianref02_TameRows.j1] at H
     by_cases c6 : x20_3 = true
     ·subst c6
      have H1 : (tacticianref02_TameRows.l1 kj3 l0 l1 a2 x7_1 x8_1 ([] : List (S61)) 0) = some r := by rw [if_pos rfl] at H; exact H
      clear H
      have H := H1
      clear H1
      have H' := Aside0.mk H
      clear H
      go_wp2
      go_loopg [9, 10] kj3 (fun kq v9 v10 w' => ∃ (x9_3 : List (S61)) (x10_3 : Int), v10 = .int .i64 x10_3 ∧ Aside0 (tacticianref02_TameRows.l1 kq l0 l1 a2 x7_1 x8_1 x9_3 x10_3 = some r) ∧ Aside0 (kq ≤ kj3) ∧ Aside0 (Kd.S (Kd.slice 61 k61) 40 w' w.heap.size (fun k_ => some k_ ≠ (v9 : Value).ownBlock) u7 x7_1) ∧ Aside0 (Kd.R k61 61 w' w.heap.size (fun _ => True) v9 x9_3) ∧ Aside0 (Below w.heap.size w w'))
      case atStart => exact ⟨(([] : List (S61))), (0), (by first | rfl | (simp; done) | (simp [*]; done)), H', ⟨Nat.le_refl _⟩, ⟨by (with_reducible repeat (first | apply Kd.S_alloc | apply Kd.S_drewN | apply Kd.S_drew)); exact Kd.S_mono HO_7.out (fun _ hk => (by simp [Value.ownBlock]))⟩, ⟨by first | exact Kd.R_nil _ _ _ _ _ | exact Kd.N_nil _ _ _ _ _ | exact Kd.V_nil _ _ _ _ _ | exact Kd.Q_nil _ _ _ _ _ | exact Kd.S_nil _ _ _ _ _⟩, ⟨by repeat (first | (with_reducible first | exact HB.out | apply yA | apply yN | apply yD) | exact HB.out)⟩⟩
      case round =>
       clear H'
       try clear c1
       try clear p2
       try clear c5
       try clear c5b0
       try clear c6
       try clear p2
       obtain ⟨x9_3, x10_3, rfl, HA, HK3, HO_7, HO_9, HB⟩ := hrel
       cases gk with
       | zero => exact absurd HA.out (by simp [tacticianref02_TameRows.l1])
       | succ k3 =>
        have H := HA.out
        clear HA
        simp only [tacticianref02_TameRows.l1] at H
        by_cases c7 : x10_3 < (l0.length : Int)
        ·rw [if_pos c7] at H
         have c7b0 : decide (x10_3 < (l0.length : Int)) = true := decide_eq_true c7
         clear c7
         by_cases c8 : 0 ≤ x8_1
         ·rw [if_pos c8] at H
          have c8b0 : decide (0 ≤ x8_1) = true := decide_eq_true c8
          clear c8
          by_cases c9 : x8_1 < (l1.length : Int)
          ·rw [if_pos c9] at H
           have c9b0 : decide (x8_1 < (l1.length : Int)) = true := decide_eq_true c9
           clear c9
           by_cases c10 : ((rd_L3 l1 x8_1).length : Int) > 0
           ·rw [if_pos c10] at H
            have c10b0 : decide (0 < ((rd_L3 l1 x8_1).length : Int)) = true := decide_eq_true c10
            have c10b1 : decide (0 < (rd_L3 l1 x8_1).length) = true := decide_eq_true (by omega)
            clear c10
            by_cases c11 : ((rd_L3 l1 x8_1).length : Int) = 0
            ·rw [if_pos c11] at H
             exact absurd H (by simp)
            ·rw [if_neg c11] at H
             have c11b0 : (((rd_L3 l1 x8_1).length : Int) == 0) = false := beq_eq_false_iff_ne.mpr c11
             have c11b1 : (((rd_L3 l1 x8_1).length : Int) != 0) = true := bne_iff_ne.mpr c11
             have c11b2 : ¬ ((rd_L3 l1 x8_1) = []) := fun h_ => c11 (by rw [h_]; rfl)
             obtain ⟨ji12, hji12⟩ : ∃ j_ : Int, (Int.tmod x10_3 ((rd_L3 l1 x8_1).length : Int)) = j_ := ⟨_, rfl⟩
             replace H : (if 0 ≤ (ji12) then (if (ji12) < ((rd_L3 l1 x8_1).length : Int) then (if 0 ≤ x10_3 then ((tacticianref01_TameAs.f k3 ((rd_T61 (rd_L3 l1 x8_1) (ji12)).f0) (wrap64 (((rd_T61 (rd_L3 l1 x8_1) (ji12)).f1) + (wrap64 (Int.tdiv x10_3 ((rd_L3 l1 x8_1).length : Int))))) ((rd_T61 (rd_L3 l1 x8_1) (ji12)).f2) ((rd_T88 l0 x10_3).f0) ((rd_T88 l0 x10_3).f1)).bind fun bt558 => (if x9_3.length < 4398046511104 then (tacticianref02_TameRows.l1 k3 l0 l1 a2 x7_1 x8_1 (x9_3 ++ [(⟨bt558.1, bt558.2.1, bt558.2.2⟩ : S61)]) (wrap64 (x10_3 + 1))) else (none))) else (none)) else (none)) else (none)) = some r := by first | (rw [hji12] at H; exact H) | (simp only [hji12] at H ⊢; exact H)
             by_cases c13 : 0 ≤ (ji12)
             ·rw [if_pos c13] at H
              have c13b0 : decide (0 ≤ (ji12)) = true := decide_eq_true c13
              clear c13
              by_cases c14 : (ji12) < ((rd_L3 l1 x8_1).length : Int)
              ·rw [if_pos c14] at H
               have c14b0 : decide ((ji12) < ((rd_L3 l1 x8_1).length : Int)) = true := decide_eq_true c14
               clear c14
               by_cases c15 : 0 ≤ x10_3
               ·rw [if_pos c15] at H
                have c15b0 : decide (0 ≤ x10_3) = true := decide_eq_true c15
                clear c15
                replace H := Option.bind_eq_some_iff.mp H
                obtain ⟨⟨t558, t559, t560⟩, A160, H⟩ := H
                replace H : (if x9_3.length < 4398046511104 then (tacticianref02_TameRows.l1 k3 l0 l1 a2 x7_1 x8_1 (x9_3 ++ [(⟨t558, t559, t560⟩ : S61)]) (wrap64 (x10_3 + 1))) else (none)) = some r := H
                have A16 := Aside0.mk A160
                clear A160
                by_cases c17 : x9_3.length < 4398046511104
                ·rw [if_pos c17] at H
                 have LMc17 := Aside0.mk c17
                 clear c17
                 obtain ⟨y561, hy561⟩ : ∃ y_ : List (S61), y_ = (x9_3 ++ [(⟨t558, t559, t560⟩ : S61)]) := ⟨_, rfl⟩
                 replace H : (tacticianref02_TameRows.l1 k3 l0 l1 a2 x7_1 x8_1 y561 (wrap64 (x10_3 + 1))) = some r := by first | (rw [hy561]; with_reducible exact H) | (have H2_ := (Option.bind_some _ _).symm.trans H; rw [hy561]; with_reducible exact H2_) | (have H2_ := (Option.bind_some _ _).symm.trans H; with_reducible exact H2_) | with_reducible exact H | (rw [hy561]; exact H) | exact H
                 have Ny561 := Aside0.mk hy561
                 clear hy561
                 have H' := Aside0.mk H
                 clear H
                 try go_wp2_with (first | ((with_reducible refine gate_dst (N := 11) rfl ?_); refine box_event ?hg (N := 11) ?hd (cs := #[.int .i64 0, .int .i64 0, .string (⟨#[]⟩ : ByteArray)]) (t := 61) ?hr ?_; (case hd => rfl); (case hg => rfl); (case hr => first | (go_simp; done) | (go_simp; rfl)); intro gb551 hg w18 hbox hb; have n0_ := Aside0.mk (Kd.S_below (Kd.S_elderB (by (with_reducible repeat (first | apply Kd.S_alloc | apply Kd.S_drewN | apply Kd.S_drew)); exact HO_7.out) gb551 (Nat.le_of_eq hg.symm)) hb); have n1_ := Aside0.mk (Kd.R_below (Kd.R_elderB (by (with_reducible repeat (first | apply Kd.R_alloc | apply Kd.R_drewN | apply Kd.R_drew)); exact HO_9.out) gb551 (Nat.le_of_eq hg.symm)) hb); have n2_ := Aside0.mk (below_step (by repeat (first | (with_reducible first | exact HB.out | apply yA | apply yN | apply yD) | exact HB.out)) hb); have n3_ := Aside0.mk (hbox); have n4_ := Aside0.mk ((by rw [hg]; exact (below_size (by repeat (first | (with_reducible first | exact HB.out | apply yA | apply yN | apply yD) | exact HB.out))) : w.heap.size ≤ gb551)); have n5_ := Aside0.mk ((by rw [hg]; exact (below_size (by repeat (first | (with_reducible first | exact HB.out | apply yA | apply yN | apply yD) | exact HB.out))) : w.heap.size ≤ gb551)); clear HO_7; clear HO_9; clear HB; have HO_7 := n0_; have HO_9 := n1_; have HB := n2_; have BK551 := n3_; have GW551 := n4_; have GE551 := n5_; clear n0_ n1_ n2_ n3_ n4_ n5_; clear hb hbox hg; have hcz19_0 : w18.cell? ⟨gb551, 0, none⟩ = some (.int .i64 0) := (blk_cell BK551.out 0).trans rfl; have hcz19_1 : w18.cell? ⟨gb551, 1, none⟩ = some (.int .i64 0) := (blk_cell BK551.out 1).trans rfl; have hcz19_2 : w18.cell? ⟨gb551, 2, none⟩ = some (.string (⟨#[]⟩ : ByteArray)) := (blk_cell BK551.out 2).trans rfl; have hfz19_0 := blk_frozen BK551.out 0; have hfz19_1 := blk_frozen BK551.out 1; have hfz19_2 := blk_frozen BK551.out 2; have p552 : 0 ≤ (x8_1 : Int) := of_decide_eq_true (by first | (with_reducible assumption) | assumption); have q552 : x8_1 < (l1.length : Int) := of_decide_eq_true (by first | (with_reducible assumption) | assumption); obtain ⟨ad552, A552_0, c552_0, e552, hx552_0, hl552_0, hi552_0⟩ := at_L3 HR1.out x8_1 p552 q552; cases e552; have hn552_0 : ad552.block ≠ gb551 := Nat.ne_of_lt (Nat.lt_of_lt_of_le (by have := World.block_lt_of_cell? _ _ hx552_0; first | rwa [add_block] at this | exact this) GW551.out); have hn552_1 : ad552.block ≠ gb551 := Nat.ne_of_lt (Nat.lt_of_lt_of_le (by have := World.block_lt_of_cell? _ _ hx552_0; first | rwa [add_block] at this | exact this) GW551.out); have hn552_2 : ad552.block ≠ gb551 := Nat.ne_of_lt (Nat.lt_of_lt_of_le (by have := World.block_lt_of_cell? _ _ hx552_0; first | rwa [add_block] at this | exact this) GW551.out); replace hx552_0 := (HB.out.cell (World.block_lt_of_cell? w _ hx552_0)).trans hx552_0; have HR552_0 := Aside0.mk hi552_0; have HC552_0 := Aside0.mk hl552_0; clear hi552_0 hl552_0; replace hx552_0 := (cell_far (p := ⟨gb551, 0, none⟩) (by first | (rw [add_block]; exact hn552_0) | (show (Addr.add _ _).block ≠ _; rw [add_block]; exact hn552_0) | exact hn552_0) (.int .i64 0)).trans hx552_0; replace hx552_0 := (cell_far (p := ⟨gb551, 1, none⟩) (by first | (rw [add_block]; exact hn552_1) | (show (Addr.add _ _).block ≠ _; rw [add_block]; exact hn552_1) | exact hn552_1) (.int .i64 0)).trans hx552_0; replace hx552_0 := (cell_far (p := ⟨gb551, 2, none⟩) (by first | (rw [add_block]; exact hn552_2) | (show (Addr.add _ _).block ≠ _; rw [add_block]; exact hn552_2) | exact hn552_2) (.string (⟨#[]⟩ : ByteArray))).trans hx552_0; clear hn552_0; clear hn552_1; clear hn552_2; replace p552 := eq_true p552; replace q552 := eq_true q552))
                 have n0_ : Aside0 (Kd.S (Kd.slice 61 k61) 40 (((w18.setCell ⟨gb551, 0, none⟩ (.int .i64 0)).setCell ⟨gb551, 1, none⟩ (.int .i64 0)).setCell ⟨gb551, 2, none⟩ (.string (⟨#[]⟩ : ByteArray))) w.heap.size (fun k_ => some k_ ≠ (u9 : Value).ownBlock ∧ k_ ≠ gb551) u7 x7_1) := ⟨by (with_reducible repeat (first | apply Kd.S_alloc | apply Kd.S_drewN | apply Kd.S_drew)); exact Kd.S_mono (Kd.S_far (p := ⟨gb551, 2, none⟩) (Kd.S_far (p := ⟨gb551, 1, none⟩) (Kd.S_far (p := ⟨gb551, 0, none⟩) (Kd.S_mono HO_7.out (fun k_ hk => (⟨hk, hk.2⟩ : _ ∧ k_ ≠ gb551))) (fun _ hk => hk.2) (.int .i64 0)) (fun _ hk => hk.2) (.int .i64 0)) (fun _ hk => hk.2) (.string (⟨#[]⟩ : ByteArray))) (fun _ hk => ⟨hk.1.1, hk.1.2⟩)⟩
                 have n1_ : Aside0 (Kd.R k61 61 (((w18.setCell ⟨gb551, 0, none⟩ (.int .i64 0)).setCell ⟨gb551, 1, none⟩ (.int .i64 0)).setCell ⟨gb551, 2, none⟩ (.string (⟨#[]⟩ : ByteArray))) w.heap.size (fun k_ => k_ ≠ gb551) u9 x9_3) := ⟨by (with_reducible repeat (first | apply Kd.R_alloc | apply Kd.R_drewN | apply Kd.R_drew)); exact Kd.R_mono (Kd.R_far (p := ⟨gb551, 2, none⟩) (Kd.R_far (p := ⟨gb551, 1, none⟩) (Kd.R_far (p := ⟨gb551, 0, none⟩) (Kd.R_mono HO_9.out (fun k_ hk => (⟨hk, hk.2⟩ : _ ∧ k_ ≠ gb551))) (fun _ hk => hk.2) (.int .i64 0)) (fun _ hk => hk.2) (.int .i64 0)) (fun _ hk => hk.2) (.string (⟨#[]⟩ : ByteArray))) (fun _ hk => hk.1.2)⟩
                 have n2_ : Aside0 ((((w18.setCell ⟨gb551, 0, none⟩ (.int .i64 0)).setCell ⟨gb551, 1, none⟩ (.int .i64 0)).setCell ⟨gb551, 2, none⟩ (.string (⟨#[]⟩ : ByteArray))).heap[gb551]? = some (.cells #[.int .i64 0, .int .i64 0, .string (⟨#[]⟩ : ByteArray)] 61 (0, 0))) := ⟨by (with_reducible repeat (first | refine zN ?_ _ | refine zD ?_ | refine zA ?_ _)); refine blk_put (cs := #[.int .i64 0, .int .i64 0, .string (⟨#[]⟩ : ByteArray)]) ?_ 2 _ rfl; (with_reducible repeat (first | refine zN ?_ _ | refine zD ?_ | refine zA ?_ _)); refine blk_put (cs := #[.int .i64 0, .int .i64 0, .string (⟨#[]⟩ : ByteArray)]) ?_ 1 _ rfl; (with_reducible repeat (first | refine zN ?_ _ | refine zD ?_ | refine zA ?_ _)); refine blk_put (cs := #[.int .i64 0, .int .i64 0, .string (⟨#[]⟩ : ByteArray)]) ?_ 0 _ rfl; (with_reducible repeat (first | refine zN ?_ _ | refine zD ?_ | refine zA ?_ _)); exact BK551.out⟩
                 have n3_ : Aside0 (Below w.heap.size w (((w18.setCell ⟨gb551, 0, none⟩ (.int .i64 0)).setCell ⟨gb551, 1, none⟩ (.int .i64 0)).setCell ⟨gb551, 2, none⟩ (.string (⟨#[]⟩ : ByteArray)))) := ⟨by repeat (first | (with_reducible first | exact HB.out | apply yA | apply yN | apply yD | refine below_set ?_ GE551.out) | exact HB.out)⟩
                 (try clear HO_7)
                 (try clear HO_9)
                 (try clear BK551)
                 (try clear HB)
                 generalize (((w18.setCell ⟨gb551, 0, none⟩ (.int .i64 0)).setCell ⟨gb551, 1, none⟩ (.int .i64 0)).setCell ⟨gb551, 2, none⟩ (.string (⟨#[]⟩ : ByteArray))) = w20 at n0_ n1_ n2_ n3_ ⊢
                 have HO_7 := n0_
                 have HO_9 := n1_
                 have BK551 := n2_
                 have HB := n3_
                 clear n0_ n1_ n2_ n3_
                 have n0_ := Aside0.mk (Kd.S_drew HO_7.out)
                 have n1_ := Aside0.mk (Kd.R_drew HO_9.out)
                 have n2_ := Aside0.mk (blk_drew BK551.out)
                 have n3_ := Aside0.mk (below_drew1 HB.out)
                 clear HO_7
                 clear HO_9
                 clear BK551
                 clear HB
                 have HO_7 := n0_
                 have HO_9 := n1_
                 have BK551 := n2_
                 have HB := n3_
                 clear n0_ n1_ n2_ n3_
                 have p553 : 0 ≤ (x8_1 : Int) := of_decide_eq_true (by first | (with_reducible assumption) | assumption)
                 have q553 : x8_1 < (l1.length : Int) := of_decide_eq_true (by first | (with_reducible assumption) | assumption)
                 obtain ⟨ad553, A553_0, c553_0, e553, hx553_0, hl553_0, hi553_0⟩ := at_L3 HR1.out x8_1 p553 q553
                 have hw553_0 := hx553_0
                 obtain rfl : ad552 = ad553 := (by injection e553)
                 replace hx553_0 := (HB.out.cell (World.block_lt_of_cell? w _ hx553_0)).trans hx553_0
                 have HR553_0 := Aside0.mk hi553_0
                 have HC553_0 := Aside0.mk hl553_0
                 clear hi553_0 hl553_0
                 replace p553 := eq_true p553
                 replace q553 := eq_true q553
                 have p554 : 0 ≤ (x8_1 : Int) := of_decide_eq_true (by first | (with_reducible assumption) | assumption)
                 have q554 : x8_1 < (l1.length : Int) := of_decide_eq_true (by first | (with_reducible assumption) | assumption)
                 obtain ⟨ad554, A554_0, c554_0, e554, hx554_0, hl554_0, hi554_0⟩ := at_L3 HR1.out x8_1 p554 q554
                 have hw554_0 := hx554_0
                 obtain rfl : ad552 = ad554 := (by injection e554)
                 replace hx554_0 := (HB.out.cell (World.block_lt_of_cell? w _ hx554_0)).trans hx554_0
                 have HR554_0 := Aside0.mk hi554_0
                 have HC554_0 := Aside0.mk hl554_0
                 clear hi554_0 hl554_0
                 replace p554 := eq_true p554
                 replace q554 := eq_true q554
                 have ea_ := Option.some.inj (hx553_0.symm.trans hx554_0)
                 injection ea_ with ea_ en_ ec_
                 subst ea_
                 subst ec_
                 clear en_
                 have p555 : 0 ≤ ((ji12) : Int) := of_decide_eq_true (by first | (with_reducible assumption) | assumption)
                 have q555 : (ji12) < ((rd_L3 l1 x8_1).length : Int) := of_decide_eq_true (by first | (with_reducible assumption) | assumption)
                 obtain ⟨ad555, e555, hx555_0, hx555_1, hx555_2⟩ := at_T61 HR553_0.out (ji12) p555 q555
                 have hw555_2 := hx555_2
                 have hw555_1 := hx555_1
                 have hw555_0 := hx555_0
                 cases e555
                 replace hx555_0 := (HB.out.cell (World.block_lt_of_cell? w _ hx555_0)).trans hx555_0
                 replace hx555_1 := (HB.out.cell (World.block_lt_of_cell? w _ hx555_1)).trans hx555_1
                 replace hx555_2 := (HB.out.cell (World.block_lt_of_cell? w _ hx555_2)).trans hx555_2
                 replace p555 := eq_true p555
                 replace q555 := eq_true q555
                 refine start_ (n := 14) (S := fun w' => w'.cell? (ad552.add (x8_1).toNat) = some (.slice (some ad555) (rd_L3 l1 x8_1).length c553_0) ∧ w'.cell? (ad552.add (x8_1).toNat) = some (.slice (some ad555) (rd_L3 l1 x8_1).length c553_0) ∧ w'.cell? (ad555.add (((ji12)).toNat * 3)) = some (.int .i64 ((rd_T61 (rd_L3 l1 x8_1) (ji12)).f0)) ∧ w'.cell? ⟨(ad555.add (((ji12)).toNat * 3)).block, (ad555.add (((ji12)).toNat * 3)).off + 1, none⟩ = some (.int .i64 ((rd_T61 (rd_L3 l1 x8_1) (ji12)).f1)) ∧ w'.cell? ⟨(ad555.add (((ji12)).toNat * 3)).block, (ad555.add (((ji12)).toNat * 3)).off + 2, none⟩ = some (.string ((rd_T61 (rd_L3 l1 x8_1) (ji12)).f2))) (ds := []) #[false, false, false, false, false, false, false, false, false, false, false, false, false, false] (by kernel_rfl) rfl rfl ⟨((HB.out.cell (World.block_lt_of_cell? w _ hw553_0)).trans hw553_0), ((HB.out.cell (World.block_lt_of_cell? w _ hw554_0)).trans hw554_0), ((HB.out.cell (World.block_lt_of_cell? w _ hw555_0)).trans hw555_0), ((HB.out.cell (World.block_lt_of_cell? w _ hw555_1)).trans hw555_1), ((HB.out.cell (World.block_lt_of_cell? w _ hw555_2)).trans hw555_2)⟩ (fun hHeld => ?_); refine with_tabW tacticianref02_TameRows.tab11 tacticianref02_TameRows.bits11 (fun HT_ HW_ => ?_)
                 generalize w20.drew = w21 at HO_7 HO_9 BK551 HB HR553_0 HR554_0 hx553_0 hx554_0 hx555_0 hx555_1 hx555_2 hHeld ⊢
                 refine pure_ (i := 0) (N := some 36) (v := ?_) (a' := ?_) #[true, false, false, false, false, false, false, false, false, false, false, false, false, false] rfl rfl (any_of HT_.out (by kernel_rfl)) (fun _ _ _ h => h) (Or.inl ⟨by rfl, ?_⟩) ?_ ?_
                 rotate_left
                 ·intro w'
                  go_simp
                  with_reducible rfl
                 rotate_left
                 ·simp only [Act.put, List.setIfInBounds_toArray, List.set_cons_zero, List.set_cons_succ, i64_w, i32_w]
                  rfl
                 refine pure_ (i := 1) (N := some 37) (v := ?_) (a' := ?_) #[true, true, false, false, false, false, false, false, false, false, false, false, false, false] rfl rfl (any_of HT_.out (by kernel_rfl)) (fun _ _ _ h => h) (Or.inl ⟨by rfl, ?_⟩) ?_ ?_
                 rotate_left
                 ·intro w'
                  go_simp
                  with_reducible rfl
                 rotate_left
                 ·simp only [Act.put, List.setIfInBounds_toArray, List.set_cons_zero, List.set_cons_succ, i64_w, i32_w]
                  rfl
                 refine pure_ (i := 2) (N := some 38) (v := ?_) (a' := ?_) #[true, true, true, false, false, false, false, false, false, false, false, false, false, false] rfl rfl (any_of HT_.out (by kernel_rfl)) (fun _ _ _ h => h) (Or.inl ⟨by rfl, ?_⟩) ?_ ?_
                 rotate_left
                 ·intro w'
                  go_simp
                  with_reducible rfl
                 rotate_left
                 ·simp only [Act.put, List.setIfInBounds_toArray, List.set_cons_zero, List.set_cons_succ, i64_w, i32_w]
                  rfl
                 refine pure_ (i := 4) (N := some 40) (v := ?_) (a' := ?_) #[true, true, true, false, true, false, false, false, false, false, false, false, false, false] rfl rfl (any_of HT_.out (by kernel_rfl)) (fun _ _ _ h => h) (Or.inl ⟨by rfl, ?_⟩) ?_ ?_
                 rotate_left
                 ·intro w'
                  go_simp
                  with_reducible rfl
                 rotate_left
                 ·simp only [Act.put, List.setIfInBounds_toArray, List.set_cons_zero, List.set_cons_succ, i64_w, i32_w]
                  rfl
                 refine pure_ (i := 5) (N := some 41) (v := ?_) (a' := ?_) #[true, true, true, false, true, true, false, false, false, false, false, false, false, false] rfl rfl (any_of HT_.out (by kernel_rfl)) (fun _ _ _ h => h) (Or.inl ⟨by rfl, ?_⟩) ?_ ?_
                 rotate_left
                 ·intro w'
                  go_simp
                  with_reducible rfl
                 rotate_left
                 ·simp only [Act.put, List.setIfInBounds_toArray, List.set_cons_zero, List.set_cons_succ, i64_w, i32_w]
                  rfl
                 refine pure_ (i := 6) (N := some 42) (v := ?_) (a' := ?_) #[true, true, true, false, true, true, true, false, false, false, false, false, false, false] rfl rfl (any_of HT_.out (by kernel_rfl)) (fun _ _ _ h => h) (Or.inl ⟨by rfl, ?_⟩) ?_ ?_
                 rotate_left
                 ·intro w'
                  go_simp
                  with_reducible rfl
                 rotate_left
                 ·simp only [Act.put, List.setIfInBounds_toArray, List.set_cons_zero, List.set_cons_succ, i64_w, i32_w]
                  rfl
                 refine pure_ (i := 7) (N := some 43) (v := ?_) (a' := ?_) #[true, true, true, false, true, true, true, true, false, false, false, false, false, false] rfl rfl (any_of HT_.out (by kernel_rfl)) (fun _ _ _ h => h) (Or.inl ⟨by rfl, ?_⟩) ?_ ?_
                 rotate_left
                 ·intro w'
                  go_simp
                  with_reducible rfl
                 rotate_left
                 ·simp only [Act.put, List.setIfInBounds_toArray, List.set_cons_zero, List.set_cons_succ, i64_w, i32_w]
                  rfl
                 refine take_ (i := 3) (N := some 39) (v := ?_) (a' := ?_) #[true, true, true, true, true, true, true, true, false, false, false, false, false, false] rfl rfl (take_ofW HT_.out HW_.out (by kernel_rfl)) (fun _ _ _ h => h) (Or.inl ⟨by rfl, ?_⟩) hHeld ?_ ?_
                 rotate_left
                 ·rintro w' ⟨s0, s1, s2, s3, s4⟩
                  go_simp
                  with_reducible rfl
                 rotate_left
                 ·simp only [Act.put, List.setIfInBounds_toArray, List.set_cons_zero, List.set_cons_succ, i64_w, i32_w]
                  rfl
                 refine take_ (i := 8) (N := some 44) (v := ?_) (a' := ?_) #[true, true, true, true, true, true, true, true, true, false, false, false, false, false] rfl rfl (take_ofW HT_.out HW_.out (by kernel_rfl)) (fun _ _ _ h => h) (Or.inl ⟨by rfl, ?_⟩) hHeld ?_ ?_
                 rotate_left
                 ·rintro w' ⟨s0, s1, s2, s3, s4⟩
                  go_simp
                  with_reducible rfl
                 rotate_left
                 ·simp only [Act.put, List.setIfInBounds_toArray, List.set_cons_zero, List.set_cons_succ, i64_w, i32_w]
                  rfl
                 refine pure_ (i := 9) (N := some 45) (v := ?_) (a' := ?_) #[true, true, true, true, true, true, true, true, true, true, false, false, false, false] rfl rfl (any_of HT_.out (by kernel_rfl)) (fun _ _ _ h => h) (Or.inl ⟨by rfl, ?_⟩) ?_ ?_
                 rotate_left
                 ·intro w'
                  go_simp
                  with_reducible rfl
                 rotate_left
                 ·simp only [Act.put, List.setIfInBounds_toArray, List.set_cons_zero, List.set_cons_succ, i64_w, i32_w]
                  rfl
                 refine pure_ (i := 10) (N := some 46) (v := ?_) (a' := ?_) #[true, true, true, true, true, true, true, true, true, true, true, false, false, false] rfl rfl (any_of HT_.out (by kernel_rfl)) (fun _ _ _ h => h) (Or.inl ⟨by rfl, ?_⟩) ?_ ?_
                 rotate_left
                 ·intro w'
                  go_simp
                  with_reducible rfl
                 rotate_left
                 ·simp only [Act.put, List.setIfInBounds_toArray, List.set_cons_zero, List.set_cons_succ, i64_w, i32_w]
                  rfl
                 refine pure_ (i := 11) (N := some 47) (v := ?_) (a' := ?_) #[true, true, true, true, true, true, true, true, true, true, true, true, false, false] rfl rfl (any_of HT_.out (by kernel_rfl)) (fun _ _ _ h => h) (Or.inl ⟨by rfl, ?_⟩) ?_ ?_
                 rotate_left
                 ·intro w'
                  go_simp
                  with_reducible rfl
                 rotate_left
                 ·simp only [Act.put, List.setIfInBounds_toArray, List.set_cons_zero, List.set_cons_succ, i64_w, i32_w]
                  rfl
                 refine take_ (i := 12) (N := some 48) (v := ?_) (a' := ?_) #[true, true, true, true, true, true, true, true, true, true, true, true, true, false] rfl rfl (take_ofW HT_.out HW_.out (by kernel_rfl)) (fun _ _ _ h => h) (Or.inl ⟨by rfl, ?_⟩) hHeld ?_ ?_
                 rotate_left
                 ·rintro w' ⟨s0, s1, s2, s3, s4⟩
                  go_simp
                  with_reducible rfl
                 rotate_left
                 ·simp only [Act.put, List.setIfInBounds_toArray, List.set_cons_zero, List.set_cons_succ, i64_w, i32_w]
                  rfl
                 refine one_ (i := 13) (N := none) #[true, true, true, true, true, true, true, true, true, true, true, true, true, true] rfl rfl (one_of HT_.out (by kernel_rfl)) (by decide) (fun K hK => ?_)
                 have hs22 : w21.cell? ⟨gb551, 0, none⟩ = some (.int .i64 0) := (blk_cell BK551.out 0).trans rfl
                 have hfs22 := blk_frozen BK551.out 0
                 have hs23 : w21.cell? ⟨gb551, 1, none⟩ = some (.int .i64 0) := (blk_cell BK551.out 1).trans rfl
                 have hfs23 := blk_frozen BK551.out 1
                 have hs24 : w21.cell? ⟨gb551, 2, none⟩ = some (.string (⟨#[]⟩ : ByteArray)) := (blk_cell BK551.out 2).trans rfl
                 have hfs24 := blk_frozen BK551.out 2
                 refine skip_ (w1 := ?_) (by rfl) rfl ?_ ?_
                 rotate_left
                 ·go_simp
                  rfl
                 refine hK.out _ _ ⟨((cell_far (p := ⟨gb551, _, none⟩) (by first | exact Nat.ne_of_lt (Nat.lt_of_lt_of_le (by have := World.block_lt_of_cell? _ _ hw553_0; first | rwa [add_block] at this | exact this) GW551.out) | (rw [add_block]; exact Nat.ne_of_lt (Nat.lt_of_lt_of_le (by have := World.block_lt_of_cell? _ _ hw553_0; first | rwa [add_block] at this | exact this) GW551.out)) | (show (Addr.add _ _).block ≠ _; rw [add_block]; exact Nat.ne_of_lt (Nat.lt_of_lt_of_le (by have := World.block_lt_of_cell? _ _ hw553_0; first | rwa [add_block] at this | exact this) GW551.out)) | (dsimp only; exact Nat.ne_of_lt (Nat.lt_of_lt_of_le (by have := World.block_lt_of_cell? _ _ hw553_0; first | rwa [add_block] at this | exact this) GW551.out))) _).trans (((cell_far (p := ⟨gb551, _, none⟩) (by first | exact Nat.ne_of_lt (Nat.lt_of_lt_of_le (by have := World.block_lt_of_cell? _ _ hw553_0; first | rwa [add_block] at this | exact this) GW551.out) | (rw [add_block]; exact Nat.ne_of_lt (Nat.lt_of_lt_of_le (by have := World.block_lt_of_cell? _ _ hw553_0; first | rwa [add_block] at this | exact this) GW551.out)) | (show (Addr.add _ _).block ≠ _; rw [add_block]; exact Nat.ne_of_lt (Nat.lt_of_lt_of_le (by have := World.block_lt_of_cell? _ _ hw553_0; first | rwa [add_block] at this | exact this) GW551.out)) | (dsimp only; exact Nat.ne_of_lt (Nat.lt_of_lt_of_le (by have := World.block_lt_of_cell? _ _ hw553_0; first | rwa [add_block] at this | exact this) GW551.out))) _).trans (((cell_far (p := ⟨gb551, _, none⟩) (by first | exact Nat.ne_of_lt (Nat.lt_of_lt_of_le (by have := World.block_lt_of_cell? _ _ hw553_0; first | rwa [add_block] at this | exact this) GW551.out) | (rw [add_block]; exact Nat.ne_of_lt (Nat.lt_of_lt_of_le (by have := World.block_lt_of_cell? _ _ hw553_0; first | rwa [add_block] at this | exact this) GW551.out)) | (show (Addr.add _ _).block ≠ _; rw [add_block]; exact Nat.ne_of_lt (Nat.lt_of_lt_of_le (by have := World.block_lt_of_cell? _ _ hw553_0; first | rwa [add_block] at this | exact this) GW551.out)) | (dsimp only; exact Nat.ne_of_lt (Nat.lt_of_lt_of_le (by have := World.block_lt_of_cell? _ _ hw553_0; first | rwa [add_block] at this | exact this) GW551.out))) _).trans (hHeld.1)))))), ((cell_far (p := ⟨gb551, _, none⟩) (by first | exact Nat.ne_of_lt (Nat.lt_of_lt_of_le (by have := World.block_lt_of_cell? _ _ hw554_0; first | rwa [add_block] at this | exact this) GW551.out) | (rw [add_block]; exact Nat.ne_of_lt (Nat.lt_of_lt_of_le (by have := World.block_lt_of_cell? _ _ hw554_0; first | rwa [add_block] at this | exact this) GW551.out)) | (show (Addr.add _ _).block ≠ _; rw [add_block]; exact Nat.ne_of_lt (Nat.lt_of_lt_of_le (by have := World.block_lt_of_cell? _ _ hw554_0; first | rwa [add_block] at this | exact this) GW551.out)) | (dsimp only; exact Nat.ne_of_lt (Nat.lt_of_lt_of_le (by have := World.block_lt_of_cell? _ _ hw554_0; first | rwa [add_block] at this | exact this) GW551.out))) _).trans (((cell_far (p := ⟨gb551, _, none⟩) (by first | exact Nat.ne_of_lt (Nat.lt_of_lt_of_le (by have := World.block_lt_of_cell? _ _ hw554_0; first | rwa [add_block] at this | exact this) GW551.out) | (rw [add_block]; exact Nat.ne_of_lt (Nat.lt_of_lt_of_le (by have := World.block_lt_of_cell? _ _ hw554_0; first | rwa [add_block] at this | exact this) GW551.out)) | (show (Addr.add _ _).block ≠ _; rw [add_block]; exact Nat.ne_of_lt (Nat.lt_of_lt_of_le (by have := World.block_lt_of_cell? _ _ hw554_0; first | rwa [add_block] at this | exact this) GW551.out)) | (dsimp only; exact Nat.ne_of_lt (Nat.lt_of_lt_of_le (by have := World.block_lt_of_cell? _ _ hw554_0; first | rwa [add_block] at this | exact this) GW551.out))) _).trans (((cell_far (p := ⟨gb551, _, none⟩) (by first | exact Nat.ne_of_lt (Nat.lt_of_lt_of_le (by have := World.block_lt_of_cell? _ _ hw554_0; first | rwa [add_block] at this | exact this) GW551.out) | (rw [add_block]; exact Nat.ne_of_lt (Nat.lt_of_lt_of_le (by have := World.block_lt_of_cell? _ _ hw554_0; first | rwa [add_block] at this | exact this) GW551.out)) | (show (Addr.add _ _).block ≠ _; rw [add_block]; exact Nat.ne_of_lt (Nat.lt_of_lt_of_le (by have := World.block_lt_of_cell? _ _ hw554_0; first | rwa [add_block] at this | exact this) GW551.out)) | (dsimp only; exact Nat.ne_of_lt (Nat.lt_of_lt_of_le (by have := World.block_lt_of_cell? _ _ hw554_0; first | rwa [add_block] at this | exact this) GW551.out))) _).trans (hHeld.2.1)))))), ((cell_far (p := ⟨gb551, _, none⟩) (by first | exact Nat.ne_of_lt (Nat.lt_of_lt_of_le (by have := World.block_lt_of_cell? _ _ hw555_0; first | rwa [add_block] at this | exact this) GW551.out) | (rw [add_block]; exact Nat.ne_of_lt (Nat.lt_of_lt_of_le (by have := World.block_lt_of_cell? _ _ hw555_0; first | rwa [add_block] at this | exact this) GW551.out)) | (show (Addr.add _ _).block ≠ _; rw [add_block]; exact Nat.ne_of_lt (Nat.lt_of_lt_of_le (by have := World.block_lt_of_cell? _ _ hw555_0; first | rwa [add_block] at this | exact this) GW551.out)) | (dsimp only; exact Nat.ne_of_lt (Nat.lt_of_lt_of_le (by have := World.block_lt_of_cell? _ _ hw555_0; first | rwa [add_block] at this | exact this) GW551.out))) _).trans (((cell_far (p := ⟨gb551, _, none⟩) (by first | exact Nat.ne_of_lt (Nat.lt_of_lt_of_le (by have := World.block_lt_of_cell? _ _ hw555_0; first | rwa [add_block] at this | exact this) GW551.out) | (rw [add_block]; exact Nat.ne_of_lt (Nat.lt_of_lt_of_le (by have := World.block_lt_of_cell? _ _ hw555_0; first | rwa [add_block] at this | exact this) GW551.out)) | (show (Addr.add _ _).block ≠ _; rw [add_block]; exact Nat.ne_of_lt (Nat.lt_of_lt_of_le (by have := World.block_lt_of_cell? _ _ hw555_0; first | rwa [add_block] at this | exact this) GW551.out)) | (dsimp only; exact Nat.ne_of_lt (Nat.lt_of_lt_of_le (by have := World.block_lt_of_cell? _ _ hw555_0; first | rwa [add_block] at this | exact this) GW551.out))) _).trans (((cell_far (p := ⟨gb551, _, none⟩) (by first | exact Nat.ne_of_lt (Nat.lt_of_lt_of_le (by have := World.block_lt_of_cell? _ _ hw555_0; first | rwa [add_block] at this | exact this) GW551.out) | (rw [add_block]; exact Nat.ne_of_lt (Nat.lt_of_lt_of_le (by have := World.block_lt_of_cell? _ _ hw555_0; first | rwa [add_block] at this | exact this) GW551.out)) | (show (Addr.add _ _).block ≠ _; rw [add_block]; exact Nat.ne_of_lt (Nat.lt_of_lt_of_le (by have := World.block_lt_of_cell? _ _ hw555_0; first | rwa [add_block] at this | exact this) GW551.out)) | (dsimp only; exact Nat.ne_of_lt (Nat.lt_of_lt_of_le (by have := World.block_lt_of_cell? _ _ hw555_0; first | rwa [add_block] at this | exact this) GW551.out))) _).trans (hHeld.2.2.1)))))), ((cell_far (p := ⟨gb551, _, none⟩) (by first | exact Nat.ne_of_lt (Nat.lt_of_lt_of_le (by have := World.block_lt_of_cell? _ _ hw555_1; first | rwa [add_block] at this | exact this) GW551.out) | (rw [add_block]; exact Nat.ne_of_lt (Nat.lt_of_lt_of_le (by have := World.block_lt_of_cell? _ _ hw555_1; first | rwa [add_block] at this | exact this) GW551.out)) | (show (Addr.add _ _).block ≠ _; rw [add_block]; exact Nat.ne_of_lt (Nat.lt_of_lt_of_le (by have := World.block_lt_of_cell? _ _ hw555_1; first | rwa [add_block] at this | exact this) GW551.out)) | (dsimp only; exact Nat.ne_of_lt (Nat.lt_of_lt_of_le (by have := World.block_lt_of_cell? _ _ hw555_1; first | rwa [add_block] at this | exact this) GW551.out))) _).trans (((cell_far (p := ⟨gb551, _, none⟩) (by first | exact Nat.ne_of_lt (Nat.lt_of_lt_of_le (by have := World.block_lt_of_cell? _ _ hw555_1; first | rwa [add_block] at this | exact this) GW551.out) | (rw [add_block]; exact Nat.ne_of_lt (Nat.lt_of_lt_of_le (by have := World.block_lt_of_cell? _ _ hw555_1; first | rwa [add_block] at this | exact this) GW551.out)) | (show (Addr.add _ _).block ≠ _; rw [add_block]; exact Nat.ne_of_lt (Nat.lt_of_lt_of_le (by have := World.block_lt_of_cell? _ _ hw555_1; first | rwa [add_block] at this | exact this) GW551.out)) | (dsimp only; exact Nat.ne_of_lt (Nat.lt_of_lt_of_le (by have := World.block_lt_of_cell? _ _ hw555_1; first | rwa [add_block] at this | exact this) GW551.out))) _).trans (((cell_far (p := ⟨gb551, _, none⟩) (by first | exact Nat.ne_of_lt (Nat.lt_of_lt_of_le (by have := World.block_lt_of_cell? _ _ hw555_1; first | rwa [add_block] at this | exact this) GW551.out) | (rw [add_block]; exact Nat.ne_of_lt (Nat.lt_of_lt_of_le (by have := World.block_lt_of_cell? _ _ hw555_1; first | rwa [add_block] at this | exact this) GW551.out)) | (show (Addr.add _ _).block ≠ _; rw [add_block]; exact Nat.ne_of_lt (Nat.lt_of_lt_of_le (by have := World.block_lt_of_cell? _ _ hw555_1; first | rwa [add_block] at this | exact this) GW551.out)) | (dsimp only; exact Nat.ne_of_lt (Nat.lt_of_lt_of_le (by have := World.block_lt_of_cell? _ _ hw555_1; first | rwa [add_block] at this | exact this) GW551.out))) _).trans (hHeld.2.2.2.1)))))), ((cell_far (p := ⟨gb551, _, none⟩) (by first | exact Nat.ne_of_lt (Nat.lt_of_lt_of_le (by have := World.block_lt_of_cell? _ _ hw555_2; first | rwa [add_block] at this | exact this) GW551.out) | (rw [add_block]; exact Nat.ne_of_lt (Nat.lt_of_lt_of_le (by have := World.block_lt_of_cell? _ _ hw555_2; first | rwa [add_block] at this | exact this) GW551.out)) | (show (Addr.add _ _).block ≠ _; rw [add_block]; exact Nat.ne_of_lt (Nat.lt_of_lt_of_le (by have := World.block_lt_of_cell? _ _ hw555_2; first | rwa [add_block] at this | exact this) GW551.out)) | (dsimp only; exact Nat.ne_of_lt (Nat.lt_of_lt_of_le (by have := World.block_lt_of_cell? _ _ hw555_2; first | rwa [add_block] at this | exact this) GW551.out))) _).trans (((cell_far (p := ⟨gb551, _, none⟩) (by first | exact Nat.ne_of_lt (Nat.lt_of_lt_of_le (by have := World.block_lt_of_cell? _ _ hw555_2; first | rwa [add_block] at this | exact this) GW551.out) | (rw [add_block]; exact Nat.ne_of_lt (Nat.lt_of_lt_of_le (by have := World.block_lt_of_cell? _ _ hw555_2; first | rwa [add_block] at this | exact this) GW551.out)) | (show (Addr.add _ _).block ≠ _; rw [add_block]; exact Nat.ne_of_lt (Nat.lt_of_lt_of_le (by have := World.block_lt_of_cell? _ _ hw555_2; first | rwa [add_block] at this | exact this) GW551.out)) | (dsimp only; exact Nat.ne_of_lt (Nat.lt_of_lt_of_le (by have := World.block_lt_of_cell? _ _ hw555_2; first | rwa [add_block] at this | exact this) GW551.out))) _).trans (((cell_far (p := ⟨gb551, _, none⟩) (by first | exact Nat.ne_of_lt (Nat.lt_of_lt_of_le (by have := World.block_lt_of_cell? _ _ hw555_2; first | rwa [add_block] at this | exact this) GW551.out) | (rw [add_block]; exact Nat.ne_of_lt (Nat.lt_of_lt_of_le (by have := World.block_lt_of_cell? _ _ hw555_2; first | rwa [add_block] at this | exact this) GW551.out)) | (show (Addr.add _ _).block ≠ _; rw [add_block]; exact Nat.ne_of_lt (Nat.lt_of_lt_of_le (by have := World.block_lt_of_cell? _ _ hw555_2; first | rwa [add_block] at this | exact this) GW551.out)) | (dsimp only; exact Nat.ne_of_lt (Nat.lt_of_lt_of_le (by have := World.block_lt_of_cell? _ _ hw555_2; first | rwa [add_block] at this | exact this) GW551.out))) _).trans (hHeld.2.2.2.2))))))⟩ (fun hHeld => ?_)
                 clear hK K
                 refine done_ (done_of HT_.out (by kernel_rfl)) ?_
                 try go_wp2
                 have n0_ : Aside0 (Kd.S (Kd.slice 61 k61) 40 (((w21.setCell ⟨gb551, 0, none⟩ (.int .i64 ((rd_T61 (rd_L3 l1 x8_1) (ji12)).f0))).setCell ⟨gb551, 1, none⟩ (.int .i64 ((rd_T61 (rd_L3 l1 x8_1) (ji12)).f1))).setCell ⟨gb551, 2, none⟩ (.string ((rd_T61 (rd_L3 l1 x8_1) (ji12)).f2))) w.heap.size (fun k_ => some k_ ≠ (u9 : Value).ownBlock ∧ k_ ≠ gb551) u7 x7_1) := ⟨by (with_reducible repeat (first | apply Kd.S_alloc | apply Kd.S_drewN | apply Kd.S_drew)); exact Kd.S_mono (Kd.S_far (p := ⟨gb551, 2, none⟩) (Kd.S_far (p := ⟨gb551, 1, none⟩) (Kd.S_far (p := ⟨gb551, 0, none⟩) (Kd.S_mono HO_7.out (fun k_ hk => (⟨hk, hk.2⟩ : _ ∧ k_ ≠ gb551))) (fun _ hk => hk.2) (.int .i64 ((rd_T61 (rd_L3 l1 x8_1) (ji12)).f0))) (fun _ hk => hk.2) (.int .i64 ((rd_T61 (rd_L3 l1 x8_1) (ji12)).f1))) (fun _ hk => hk.2) (.string ((rd_T61 (rd_L3 l1 x8_1) (ji12)).f2))) (fun _ hk => ⟨hk.1.1, hk.1.2⟩)⟩
                 have n1_ : Aside0 (Kd.R k61 61 (((w21.setCell ⟨gb551, 0, none⟩ (.int .i64 ((rd_T61 (rd_L3 l1 x8_1) (ji12)).f0))).setCell ⟨gb551, 1, none⟩ (.int .i64 ((rd_T61 (rd_L3 l1 x8_1) (ji12)).f1))).setCell ⟨gb551, 2, none⟩ (.string ((rd_T61 (rd_L3 l1 x8_1) (ji12)).f2))) w.heap.size (fun k_ => k_ ≠ gb551) u9 x9_3) := ⟨by (with_reducible repeat (first | apply Kd.R_alloc | apply Kd.R_drewN | apply Kd.R_drew)); exact Kd.R_mono (Kd.R_far (p := ⟨gb551, 2, none⟩) (Kd.R_far (p := ⟨gb551, 1, none⟩) (Kd.R_far (p := ⟨gb551, 0, none⟩) (Kd.R_mono HO_9.out (fun k_ hk => (⟨hk, hk⟩ : _ ∧ k_ ≠ gb551))) (fun _ hk => hk.2) (.int .i64 ((rd_T61 (rd_L3 l1 x8_1) (ji12)).f0))) (fun _ hk => hk.2) (.int .i64 ((rd_T61 (rd_L3 l1 x8_1) (ji12)).f1))) (fun _ hk => hk.2) (.string ((rd_T61 (rd_L3 l1 x8_1) (ji12)).f2))) (fun _ hk => hk.1)⟩
                 have n2_ : Aside0 ((((w21.setCell ⟨gb551, 0, none⟩ (.int .i64 ((rd_T61 (rd_L3 l1 x8_1) (ji12)).f0))).setCell ⟨gb551, 1, none⟩ (.int .i64 ((rd_T61 (rd_L3 l1 x8_1) (ji12)).f1))).setCell ⟨gb551, 2, none⟩ (.string ((rd_T61 (rd_L3 l1 x8_1) (ji12)).f2))).heap[gb551]? = some (.cells #[.int .i64 ((rd_T61 (rd_L3 l1 x8_1) (ji12)).f0), .int .i64 ((rd_T61 (rd_L3 l1 x8_1) (ji12)).f1), .string ((rd_T61 (rd_L3 l1 x8_1) (ji12)).f2)] 61 (0, 0))) := ⟨by (with_reducible repeat (first | refine zN ?_ _ | refine zD ?_ | refine zA ?_ _)); refine blk_put (cs := #[.int .i64 ((rd_T61 (rd_L3 l1 x8_1) (ji12)).f0), .int .i64 ((rd_T61 (rd_L3 l1 x8_1) (ji12)).f1), .string (⟨#[]⟩ : ByteArray)]) ?_ 2 _ rfl; (with_reducible repeat (first | refine zN ?_ _ | refine zD ?_ | refine zA ?_ _)); refine blk_put (cs := #[.int .i64 ((rd_T61 (rd_L3 l1 x8_1) (ji12)).f0), .int .i64 0, .string (⟨#[]⟩ : ByteArray)]) ?_ 1 _ rfl; (with_reducible repeat (first | refine zN ?_ _ | refine zD ?_ | refine zA ?_ _)); refine blk_put (cs := #[.int .i64 0, .int .i64 0, .string (⟨#[]⟩ : ByteArray)]) ?_ 0 _ rfl; (with_reducible repeat (first | refine zN ?_ _ | refine zD ?_ | refine zA ?_ _)); exact BK551.out⟩
                 have n3_ : Aside0 (Below w.heap.size w (((w21.setCell ⟨gb551, 0, none⟩ (.int .i64 ((rd_T61 (rd_L3 l1 x8_1) (ji12)).f0))).setCell ⟨gb551, 1, none⟩ (.int .i64 ((rd_T61 (rd_L3 l1 x8_1) (ji12)).f1))).setCell ⟨gb551, 2, none⟩ (.string ((rd_T61 (rd_L3 l1 x8_1) (ji12)).f2)))) := ⟨by repeat (first | (with_reducible first | exact HB.out | apply yA | apply yN | apply yD | refine below_set ?_ GE551.out) | exact HB.out)⟩
                 (try clear HO_7)
                 (try clear HO_9)
                 (try clear BK551)
                 (try clear HB)
                 generalize (((w21.setCell ⟨gb551, 0, none⟩ (.int .i64 ((rd_T61 (rd_L3 l1 x8_1) (ji12)).f0))).setCell ⟨gb551, 1, none⟩ (.int .i64 ((rd_T61 (rd_L3 l1 x8_1) (ji12)).f1))).setCell ⟨gb551, 2, none⟩ (.string ((rd_T61 (rd_L3 l1 x8_1) (ji12)).f2))) = w25 at n0_ n1_ n2_ n3_ ⊢
                 have HO_7 := n0_
                 have HO_9 := n1_
                 have BK551 := n2_
                 have HB := n3_
                 clear n0_ n1_ n2_ n3_
                 have n0_ := Aside0.mk (Kd.S_drew HO_7.out)
                 have n1_ := Aside0.mk (Kd.R_drew HO_9.out)
                 have n2_ := Aside0.mk (blk_drew BK551.out)
                 have n3_ := Aside0.mk (below_drew1 HB.out)
                 clear HO_7
                 clear HO_9
                 clear BK551
                 clear HB
                 have HO_7 := n0_
                 have HO_9 := n1_
                 have BK551 := n2_
                 have HB := n3_
                 clear n0_ n1_ n2_ n3_
                 have p556 : 0 ≤ (x8_1 : Int) := of_decide_eq_true (by first | (with_reducible assumption) | assumption)
                 have q556 : x8_1 < (l1.length : Int) := of_decide_eq_true (by first | (with_reducible assumption) | assumption)
                 obtain ⟨ad556, A556_0, c556_0, e556, hx556_0, hl556_0, hi556_0⟩ := at_L3 HR1.out x8_1 p556 q556
                 have hw556_0 := hx556_0
                 obtain rfl : ad552 = ad556 := (by injection e556)
                 replace hx556_0 := (HB.out.cell (World.block_lt_of_cell? w _ hx556_0)).trans hx556_0
                 have HR556_0 := Aside0.mk hi556_0
                 have HC556_0 := Aside0.mk hl556_0
                 clear hi556_0 hl556_0
                 replace p556 := eq_true p556
                 replace q556 := eq_true q556
                 refine start_ (n := 12) (S := fun w' => w'.cell? ⟨gb551, 0, none⟩ = some (.int .i64 ((rd_T61 (rd_L3 l1 x8_1) (ji12)).f0)) ∧ w'.cell? ⟨gb551, 1, none⟩ = some (.int .i64 ((rd_T61 (rd_L3 l1 x8_1) (ji12)).f1)) ∧ w'.cell? ⟨gb551, 2, none⟩ = some (.string ((rd_T61 (rd_L3 l1 x8_1) (ji12)).f2)) ∧ w'.cell? (ad552.add (x8_1).toNat) = some (.slice A556_0 (rd_L3 l1 x8_1).length c556_0)) (ds := [11]) #[false, false, false, false, false, false, false, false, false, false, false, false] (by kernel_rfl) rfl rfl ⟨(blk_cell BK551.out 0).trans rfl, (blk_cell BK551.out 1).trans rfl, (blk_cell BK551.out 2).trans rfl, ((HB.out.cell (World.block_lt_of_cell? w _ hw556_0)).trans hw556_0)⟩ (fun hHeld => ?_); refine with_tabW tacticianref02_TameRows.tab12 tacticianref02_TameRows.bits12 (fun HT_ HW_ => ?_)
                 generalize w25.drew = w26 at HO_7 HO_9 BK551 HB HR556_0 hx556_0 hHeld ⊢
                 refine pure_ (i := 0) (N := some 49) (v := ?_) (a' := ?_) #[true, false, false, false, false, false, false, false, false, false, false, false] rfl rfl (any_of HT_.out (by kernel_rfl)) (fun _ _ _ h => h) (Or.inl ⟨by rfl, ?_⟩) ?_ ?_
                 rotate_left
                 ·intro w'
                  go_simp
                  with_reducible rfl
                 rotate_left
                 ·simp only [Act.put, List.setIfInBounds_toArray, List.set_cons_zero, List.set_cons_succ, i64_w, i32_w]
                  rfl
                 refine pure_ (i := 2) (N := some 51) (v := ?_) (a' := ?_) #[true, false, true, false, false, false, false, false, false, false, false, false] rfl rfl (any_of HT_.out (by kernel_rfl)) (fun _ _ _ h => h) (Or.inl ⟨by rfl, ?_⟩) ?_ ?_
                 rotate_left
                 ·intro w'
                  go_simp
                  with_reducible rfl
                 rotate_left
                 ·simp only [Act.put, List.setIfInBounds_toArray, List.set_cons_zero, List.set_cons_succ, i64_w, i32_w]
                  rfl
                 refine pure_ (i := 3) (N := some 52) (v := ?_) (a' := ?_) #[true, false, true, true, false, false, false, false, false, false, false, false] rfl rfl (any_of HT_.out (by kernel_rfl)) (fun _ _ _ h => h) (Or.inl ⟨by rfl, ?_⟩) ?_ ?_
                 rotate_left
                 ·intro w'
                  go_simp
                  with_reducible rfl
                 rotate_left
                 ·simp only [Act.put, List.setIfInBounds_toArray, List.set_cons_zero, List.set_cons_succ, i64_w, i32_w]
                  rfl
                 refine pure_ (i := 4) (N := some 53) (v := ?_) (a' := ?_) #[true, false, true, true, true, false, false, false, false, false, false, false] rfl rfl (any_of HT_.out (by kernel_rfl)) (fun _ _ _ h => h) (Or.inl ⟨by rfl, ?_⟩) ?_ ?_
                 rotate_left
                 ·intro w'
                  go_simp
                  with_reducible rfl
                 rotate_left
                 ·simp only [Act.put, List.setIfInBounds_toArray, List.set_cons_zero, List.set_cons_succ, i64_w, i32_w]
                  rfl
                 refine pure_ (i := 5) (N := some 54) (v := ?_) (a' := ?_) #[true, false, true, true, true, true, false, false, false, false, false, false] rfl rfl (any_of HT_.out (by kernel_rfl)) (fun _ _ _ h => h) (Or.inl ⟨by rfl, ?_⟩) ?_ ?_
                 rotate_left
                 ·intro w'
                  go_simp
                  with_reducible rfl
                 rotate_left
                 ·simp only [Act.put, List.setIfInBounds_toArray, List.set_cons_zero, List.set_cons_succ, i64_w, i32_w]
                  rfl
                 refine take_ (i := 1) (N := some 50) (v := ?_) (a' := ?_) #[true, true, true, true, true, true, false, false, false, false, false, false] rfl rfl (take_ofW HT_.out HW_.out (by kernel_rfl)) (fun _ _ _ h => h) (Or.inl ⟨by rfl, ?_⟩) hHeld ?_ ?_
                 rotate_left
                 ·rintro w' ⟨s0, s1, s2, s3⟩
                  go_simp
                  with_reducible rfl
                 rotate_left
                 ·simp only [Act.put, List.setIfInBounds_toArray, List.set_cons_zero, List.set_cons_succ, i64_w, i32_w]
                  rfl
                 refine take_ (i := 6) (N := some 55) (v := ?_) (a' := ?_) #[true, true, true, true, true, true, true, false, false, false, false, false] rfl rfl (take_ofW HT_.out HW_.out (by kernel_rfl)) (fun _ _ _ h => h) (Or.inl ⟨by rfl, ?_⟩) hHeld ?_ ?_
                 rotate_left
                 ·rintro w' ⟨s0, s1, s2, s3⟩
                  go_simp
                  with_reducible rfl
                 rotate_left
                 ·simp only [Act.put, List.setIfInBounds_toArray, List.set_cons_zero, List.set_cons_succ, i64_w, i32_w]
                  rfl
                 refine pure_ (i := 7) (N := some 56) (v := ?_) (a' := ?_) #[true, true, true, true, true, true, true, true, false, false, false, false] rfl rfl (any_of HT_.out (by kernel_rfl)) (fun _ _ _ h => h) (Or.inl ⟨by rfl, ?_⟩) ?_ ?_
                 rotate_left
                 ·intro w'
                  go_simp
                  with_reducible rfl
                 rotate_left
                 ·simp only [Act.put, List.setIfInBounds_toArray, List.set_cons_zero, List.set_cons_succ, i64_w, i32_w]
                  rfl
                 refine pure_ (i := 8) (N := some 57) (v := ?_) (a' := ?_) #[true, true, true, true, true, true, true, true, true, false, false, false] rfl rfl (any_of HT_.out (by kernel_rfl)) (fun _ _ _ h => h) (Or.inl ⟨by rfl, ?_⟩) ?_ ?_
                 rotate_left
                 ·intro w'
                  go_simp
                  with_reducible rfl
                 rotate_left
                 ·simp only [Act.put, List.setIfInBounds_toArray, List.set_cons_zero, List.set_cons_succ, i64_w, i32_w]
                  rfl
                 refine pure_ (i := 9) (N := some 58) (v := ?_) (a' := ?_) #[true, true, true, true, true, true, true, true, true, true, false, false] rfl rfl (any_of HT_.out (by kernel_rfl)) (fun _ _ _ h => h) (Or.inl ⟨by rfl, ?_⟩) ?_ ?_
                 rotate_left
                 ·intro w'
                  go_simp
                  with_reducible rfl
                 rotate_left
                 ·simp only [Act.put, List.setIfInBounds_toArray, List.set_cons_zero, List.set_cons_succ, i64_w, i32_w]
                  rfl
                 refine pure_ (i := 10) (N := some 59) (v := ?_) (a' := ?_) #[true, true, true, true, true, true, true, true, true, true, true, false] rfl rfl (any_of HT_.out (by kernel_rfl)) (fun _ _ _ h => h) (Or.inl ⟨by rfl, ?_⟩) ?_ ?_
                 rotate_left
                 ·intro w'
                  go_simp
                  with_reducible rfl
                 rotate_left
                 ·simp only [Act.put, List.setIfInBounds_toArray, List.set_cons_zero, List.set_cons_succ, i64_w, i32_w]
                  rfl
                 refine last_ (i := 11) (N := none) #[true, true, true, true, true, true, true, true, true, true, true, true] rfl rfl (one_of HT_.out (by kernel_rfl)) (by decide) (fun K hK => ?_)
                 have hs27 : w26.cell? ⟨gb551, 1, none⟩ = some (.int .i64 ((rd_T61 (rd_L3 l1 x8_1) (ji12)).f1)) := (blk_cell BK551.out 1).trans rfl
                 have hfs27 := blk_frozen BK551.out 1
                 refine skip_ (w1 := ?_) (by rfl) rfl ?_ ?_
                 rotate_left
                 ·go_simp
                  rfl
                 refine hK.out _ _ ?_
                 clear hK K
                 refine done_ (done_of HT_.out (by kernel_rfl)) ?_
                 try clear hx553_0
                 try clear hx554_0
                 try clear HS0_
                 try clear HS1_
                 try clear HS2_
                 try clear HS3_
                 try clear hHeld
                 try go_wp2
                 have n0_ : Aside0 (Kd.S (Kd.slice 61 k61) 40 (w26.setCell ⟨gb551, 1, none⟩ (.int .i64 (wrap64 (((rd_T61 (rd_L3 l1 x8_1) (ji12)).f1) + (wrap64 (Int.tdiv x10_3 ((rd_L3 l1 x8_1).length : Int))))))) w.heap.size (fun k_ => some k_ ≠ (u9 : Value).ownBlock ∧ k_ ≠ gb551) u7 x7_1) := ⟨by (with_reducible repeat (first | apply Kd.S_alloc | apply Kd.S_drewN | apply Kd.S_drew)); exact Kd.S_mono (Kd.S_far (p := ⟨gb551, 1, none⟩) (Kd.S_mono HO_7.out (fun k_ hk => (⟨hk, hk.2⟩ : _ ∧ k_ ≠ gb551))) (fun _ hk => hk.2) (.int .i64 (wrap64 (((rd_T61 (rd_L3 l1 x8_1) (ji12)).f1) + (wrap64 (Int.tdiv x10_3 ((rd_L3 l1 x8_1).length : Int))))))) (fun _ hk => ⟨hk.1.1, hk.1.2⟩)⟩
                 have n1_ : Aside0 (Kd.R k61 61 (w26.setCell ⟨gb551, 1, none⟩ (.int .i64 (wrap64 (((rd_T61 (rd_L3 l1 x8_1) (ji12)).f1) + (wrap64 (Int.tdiv x10_3 ((rd_L3 l1 x8_1).length : Int))))))) w.heap.size (fun k_ => k_ ≠ gb551) u9 x9_3) := ⟨by (with_reducible repeat (first | apply Kd.R_alloc | apply Kd.R_drewN | apply Kd.R_drew)); exact Kd.R_mono (Kd.R_far (p := ⟨gb551, 1, none⟩) (Kd.R_mono HO_9.out (fun k_ hk => (⟨hk, hk⟩ : _ ∧ k_ ≠ gb551))) (fun _ hk => hk.2) (.int .i64 (wrap64 (((rd_T61 (rd_L3 l1 x8_1) (ji12)).f1) + (wrap64 (Int.tdiv x10_3 ((rd_L3 l1 x8_1).length : Int))))))) (fun _ hk => hk.1)⟩
                 have n2_ : Aside0 ((w26.setCell ⟨gb551, 1, none⟩ (.int .i64 (wrap64 (((rd_T61 (rd_L3 l1 x8_1) (ji12)).f1) + (wrap64 (Int.tdiv x10_3 ((rd_L3 l1 x8_1).length : Int))))))).heap[gb551]? = some (.cells #[.int .i64 ((rd_T61 (rd_L3 l1 x8_1) (ji12)).f0), .int .i64 (wrap64 (((rd_T61 (rd_L3 l1 x8_1) (ji12)).f1) + (wrap64 (Int.tdiv x10_3 ((rd_L3 l1 x8_1).length : Int))))), .string ((rd_T61 (rd_L3 l1 x8_1) (ji12)).f2)] 61 (0, 0))) := ⟨by (with_reducible repeat (first | refine zN ?_ _ | refine zD ?_ | refine zA ?_ _)); refine blk_put (cs := #[.int .i64 ((rd_T61 (rd_L3 l1 x8_1) (ji12)).f0), .int .i64 ((rd_T61 (rd_L3 l1 x8_1) (ji12)).f1), .string ((rd_T61 (rd_L3 l1 x8_1) (ji12)).f2)]) ?_ 1 _ rfl; (with_reducible repeat (first | refine zN ?_ _ | refine zD ?_ | refine zA ?_ _)); exact BK551.out⟩
                 have n3_ : Aside0 (Below w.heap.size w (w26.setCell ⟨gb551, 1, none⟩ (.int .i64 (wrap64 (((rd_T61 (rd_L3 l1 x8_1) (ji12)).f1) + (wrap64 (Int.tdiv x10_3 ((rd_L3 l1 x8_1).length : Int)))))))) := ⟨by repeat (first | (with_reducible first | exact HB.out | apply yA | apply yN | apply yD | refine below_set ?_ GE551.out) | exact HB.out)⟩
                 (try clear HO_7)
                 (try clear HO_9)
                 (try clear BK551)
                 (try clear HB)
                 generalize (w26.setCell ⟨gb551, 1, none⟩ (.int .i64 (wrap64 (((rd_T61 (rd_L3 l1 x8_1) (ji12)).f1) + (wrap64 (Int.tdiv x10_3 ((rd_L3 l1 x8_1).length : Int))))))) = w28 at n0_ n1_ n2_ n3_ ⊢
                 have HO_7 := n0_
                 have HO_9 := n1_
                 have BK551 := n2_
                 have HB := n3_
                 clear n0_ n1_ n2_ n3_
                 have n0_ := Aside0.mk (Kd.S_drew HO_7.out)
                 have n1_ := Aside0.mk (Kd.R_drew HO_9.out)
                 have n2_ := Aside0.mk (blk_drew BK551.out)
                 have n3_ := Aside0.mk (below_drew1 HB.out)
                 clear HO_7
                 clear HO_9
                 clear BK551
                 clear HB
                 have HO_7 := n0_
                 have HO_9 := n1_
                 have BK551 := n2_
                 have HB := n3_
                 clear n0_ n1_ n2_ n3_
                 have p557 : 0 ≤ (x10_3 : Int) := of_decide_eq_true (by first | (with_reducible assumption) | assumption)
                 have q557 : x10_3 < (l0.length : Int) := of_decide_eq_true (by first | (with_reducible assumption) | assumption)
                 obtain ⟨ad557, e557, hx557_0, hx557_1⟩ := at_T88 HR0.out x10_3 p557 q557
                 have hw557_1 := hx557_1
                 have hw557_0 := hx557_0
                 cases e557
                 replace hx557_0 := (HB.out.cell (World.block_lt_of_cell? w _ hx557_0)).trans hx557_0
                 replace hx557_1 := (HB.out.cell (World.block_lt_of_cell? w _ hx557_1)).trans hx557_1
                 replace p557 := eq_true p557
                 replace q557 := eq_true q557
                 refine start_ (n := 10) (S := fun w' => w'.cell? ⟨gb551, 0, none⟩ = some (.int .i64 ((rd_T61 (rd_L3 l1 x8_1) (ji12)).f0)) ∧ w'.cell? ⟨gb551, 1, none⟩ = some (.int .i64 (wrap64 (((rd_T61 (rd_L3 l1 x8_1) (ji12)).f1) + (wrap64 (Int.tdiv x10_3 ((rd_L3 l1 x8_1).length : Int)))))) ∧ w'.cell? ⟨gb551, 2, none⟩ = some (.string ((rd_T61 (rd_L3 l1 x8_1) (ji12)).f2)) ∧ w'.cell? (ad557.add ((x10_3).toNat * 2)) = some (.int .i64 ((rd_T88 l0 x10_3).f0)) ∧ w'.cell? ⟨(ad557.add ((x10_3).toNat * 2)).block, (ad557.add ((x10_3).toNat * 2)).off + 1, none⟩ = some (.bool ((rd_T88 l0 x10_3).f1))) (ds := []) #[false, false, false, false, false, false, false, false, false, false] (by kernel_rfl) rfl rfl ⟨(blk_cell BK551.out 0).trans rfl, (blk_cell BK551.out 1).trans rfl, (blk_cell BK551.out 2).trans rfl, ((HB.out.cell (World.block_lt_of_cell? w _ hw557_0)).trans hw557_0), ((HB.out.cell (World.block_lt_of_cell? w _ hw557_1)).trans hw557_1)⟩ (fun hHeld => ?_); refine with_tabW tacticianref02_TameRows.tab13 tacticianref02_TameRows.bits13 (fun HT_ HW_ => ?_)
                 generalize w28.drew = w29 at HO_7 HO_9 BK551 HB hx557_0 hx557_1 hHeld ⊢
                 refine pure_ (i := 0) (N := some 60) (v := ?_) (a' := ?_) #[true, false, false, false, false, false, false, false, false, false] rfl rfl (any_of HT_.out (by kernel_rfl)) (fun _ _ _ h => h) (Or.inl ⟨by rfl, ?_⟩) ?_ ?_
                 rotate_left
                 ·intro w'
                  go_simp
                  with_reducible rfl
                 rotate_left
                 ·simp only [Act.put, List.setIfInBounds_toArray, List.set_cons_zero, List.set_cons_succ, i64_w, i32_w]
                  rfl
                 refine pure_ (i := 2) (N := some 62) (v := ?_) (a' := ?_) #[true, false, true, false, false, false, false, false, false, false] rfl rfl (any_of HT_.out (by kernel_rfl)) (fun _ _ _ h => h) (Or.inl ⟨by rfl, ?_⟩) ?_ ?_
                 rotate_left
                 ·intro w'
                  go_simp
                  with_reducible rfl
                 rotate_left
                 ·simp only [Act.put, List.setIfInBounds_toArray, List.set_cons_zero, List.set_cons_succ, i64_w, i32_w]
                  rfl
                 refine pure_ (i := 3) (N := some 63) (v := ?_) (a' := ?_) #[true, false, true, true, false, false, false, false, false, false] rfl rfl (any_of HT_.out (by kernel_rfl)) (fun _ _ _ h => h) (Or.inl ⟨by rfl, ?_⟩) ?_ ?_
                 rotate_left
                 ·intro w'
                  go_simp
                  with_reducible rfl
                 rotate_left
                 ·simp only [Act.put, List.setIfInBounds_toArray, List.set_cons_zero, List.set_cons_succ, i64_w, i32_w]
                  rfl
                 refine pure_ (i := 4) (N := some 64) (v := ?_) (a' := ?_) #[true, false, true, true, true, false, false, false, false, false] rfl rfl (any_of HT_.out (by kernel_rfl)) (fun _ _ _ h => h) (Or.inl ⟨by rfl, ?_⟩) ?_ ?_
                 rotate_left
                 ·intro w'
                  go_simp
                  with_reducible rfl
                 rotate_left
                 ·simp only [Act.put, List.setIfInBounds_toArray, List.set_cons_zero, List.set_cons_succ, i64_w, i32_w]
                  rfl
                 refine take_ (i := 1) (N := some 61) (v := ?_) (a' := ?_) #[true, true, true, true, true, false, false, false, false, false] rfl rfl (take_ofW HT_.out HW_.out (by kernel_rfl)) (fun _ _ _ h => h) (Or.inl ⟨by rfl, ?_⟩) hHeld ?_ ?_
                 rotate_left
                 ·rintro w' ⟨s0, s1, s2, s3, s4⟩
                  go_simp
                  with_reducible rfl
                 rotate_left
                 ·simp only [Act.put, List.setIfInBounds_toArray, List.set_cons_zero, List.set_cons_succ, i64_w, i32_w]
                  rfl
                 refine take_ (i := 5) (N := some 65) (v := ?_) (a' := ?_) #[true, true, true, true, true, true, false, false, false, false] rfl rfl (take_ofW HT_.out HW_.out (by kernel_rfl)) (fun _ _ _ h => h) (Or.inl ⟨by rfl, ?_⟩) hHeld ?_ ?_
                 rotate_left
                 ·rintro w' ⟨s0, s1, s2, s3, s4⟩
                  go_simp
                  with_reducible rfl
                 rotate_left
                 ·simp only [Act.put, List.setIfInBounds_toArray, List.set_cons_zero, List.set_cons_succ, i64_w, i32_w]
                  rfl
                 refine one_ (i := 6) (N := some 66) #[true, true, true, true, true, true, true, false, false, false] rfl rfl (one_of HT_.out (by kernel_rfl)) (by decide) (fun K hK => ?_)
                 refine goes_ Tryz.func112 (by kernel_rfl) rfl #[.agg #[.int .i64 ((rd_T61 (rd_L3 l1 x8_1) (ji12)).f0), .int .i64 (wrap64 (((rd_T61 (rd_L3 l1 x8_1) (ji12)).f1) + (wrap64 (Int.tdiv x10_3 ((rd_L3 l1 x8_1).length : Int))))), .string ((rd_T61 (rd_L3 l1 x8_1) (ji12)).f2)], .agg #[.int .i64 ((rd_T88 l0 x10_3).f0), .bool ((rd_T88 l0 x10_3).f1)]] (by rfl) rfl rfl (by (try simp only [List.map_toArray, List.map_cons, List.map_nil]); first | done | (simp only [hji12]; rfl) | rfl | (simp only [List.length_drop, List.length_take]; rfl)) ?_
                 with_reducible refine (tacticianref01_TameAs.calls k3 ((rd_T61 (rd_L3 l1 x8_1) (ji12)).f0) (wrap64 (((rd_T61 (rd_L3 l1 x8_1) (ji12)).f1) + (wrap64 (Int.tdiv x10_3 ((rd_L3 l1 x8_1).length : Int))))) ((rd_T61 (rd_L3 l1 x8_1) (ji12)).f2) ((rd_T88 l0 x10_3).f0) ((rd_T88 l0 x10_3).f1) t558 t559 t560 _ A16.out).mono ?_
                 rintro e w30 ⟨rfl, hb⟩
                 refine ⟨_, rfl, ?_⟩
                 have n0_ := Aside0.mk (Kd.S_below (by (with_reducible repeat (first | apply Kd.S_alloc | apply Kd.S_drewN | apply Kd.S_drew)); exact HO_7.out) hb)
                 have n1_ := Aside0.mk (Kd.R_below (by (with_reducible repeat (first | apply Kd.R_alloc | apply Kd.R_drewN | apply Kd.R_drew)); exact HO_9.out) hb)
                 have n2_ := Aside0.mk (blk_below (g := gb551) (o := .cells #[.int .i64 ((rd_T61 (rd_L3 l1 x8_1) (ji12)).f0), .int .i64 (wrap64 (((rd_T61 (rd_L3 l1 x8_1) (ji12)).f1) + (wrap64 (Int.tdiv x10_3 ((rd_L3 l1 x8_1).length : Int))))), .string ((rd_T61 (rd_L3 l1 x8_1) (ji12)).f2)] 61 (0, 0)) (by (with_reducible repeat (first | refine zN ?_ _ | refine zD ?_ | refine zA ?_ _)); exact BK551.out) hb)
                 have n3_ := Aside0.mk (below_step (by repeat (first | (with_reducible first | exact HB.out | apply yA | apply yN | apply yD | refine below_set ?_ GE551.out) | exact HB.out)) hb)
                 clear HO_7
                 clear HO_9
                 clear BK551
                 clear HB
                 have HO_7 := n0_
                 have HO_9 := n1_
                 have BK551 := n2_
                 have HB := n3_
                 clear n0_ n1_ n2_ n3_
                 (try clear hb)
                 (try clear hb2)
                 (try clear hk)
                 (try clear hi)
                 refine hK.out _ _ ⟨(blk_cell BK551.out 0).trans rfl, (blk_cell BK551.out 1).trans rfl, (blk_cell BK551.out 2).trans rfl, ((HB.out.cell (World.block_lt_of_cell? w _ hw557_0)).trans hw557_0), ((HB.out.cell (World.block_lt_of_cell? w _ hw557_1)).trans hw557_1)⟩ (fun hHeld => ?_)
                 clear hK K
                 refine norm_ (a' := ?_) ?_ ?_
                 rotate_left
                 ·show Act.put _ (some 66) _ = _
                  simp only [Act.put, List.setIfInBounds_toArray, List.set_cons_zero, List.set_cons_succ, i64_w, i32_w]
                  rfl
                 refine one_ (i := 7) (N := some 67) #[true, true, true, true, true, true, true, true, false, false] rfl rfl (one_of HT_.out (by kernel_rfl)) (by decide) (fun K hK => ?_)
                 refine value_ (w1 := ?_) (v := ?_) (by rfl) rfl ?_ ?_
                 rotate_left 2
                 ·go_simp
                  constructor
                  ·rfl
                  ·rfl
                 refine hK.out _ _ ⟨(blk_cell (blk_alloc BK551.out _) 0).trans rfl, (blk_cell (blk_alloc BK551.out _) 1).trans rfl, (blk_cell (blk_alloc BK551.out _) 2).trans rfl, (World.cell?_alloc_lt _ _ _ (World.block_lt_of_cell? _ _ (((HB.out.cell (World.block_lt_of_cell? w _ hw557_0)).trans hw557_0)))).trans (((HB.out.cell (World.block_lt_of_cell? w _ hw557_0)).trans hw557_0)), (World.cell?_alloc_lt _ _ _ (World.block_lt_of_cell? _ _ (((HB.out.cell (World.block_lt_of_cell? w _ hw557_1)).trans hw557_1)))).trans (((HB.out.cell (World.block_lt_of_cell? w _ hw557_1)).trans hw557_1))⟩ (fun hHeld => ?_)
                 clear hK K
                 refine norm_ (a' := ?_) ?_ ?_
                 rotate_left
                 ·show Act.put _ (some 67) _ = _
                  simp only [Act.put, List.setIfInBounds_toArray, List.set_cons_zero, List.set_cons_succ, i64_w, i32_w]
                  rfl
                 refine one_ (i := 8) (N := some 68) #[true, true, true, true, true, true, true, true, true, false] rfl rfl (one_of HT_.out (by kernel_rfl)) (by decide) (fun K hK => ?_)
                 refine Kd.R_append_step k61 (w0 := w) w.heap.size (by rfl) (.tmp 60) (.tmp 67) 40 61 (.agg #[(.int .i64 0), (.int .i64 0), (.string ⟨#[]⟩)]) 32 rfl Tryz.underlying40 info61 rfl (by decide) (by omega) u9 x9_3 (⟨t558, t559, t560⟩ : S61) [.int .i64 t558, .int .i64 t559, .string t560] (fun k_ => k_ ≠ gb551) (fun _ => False) rfl rfl ?aP (fun _ hk => hk.elim) ?aF ?aO ?aB ?aS ?aL ?_
                 (case aP => exact k61_mkM _ _ _ (⟨t558, t559, t560⟩ : S61))
                 (case aB => exact (by repeat (first | (with_reducible first | exact HB.out | apply yA | apply yN | apply yD | refine below_set ?_ GE551.out) | exact HB.out)))
                 (case aF => exact (fun k_ hk => Kd.freshB (g := gb551) (o := .cells #[.int .i64 ((rd_T61 (rd_L3 l1 x8_1) (ji12)).f0), .int .i64 (wrap64 (((rd_T61 (rd_L3 l1 x8_1) (ji12)).f1) + (wrap64 (Int.tdiv x10_3 ((rd_L3 l1 x8_1).length : Int))))), .string ((rd_T61 (rd_L3 l1 x8_1) (ji12)).f2)] 61 (0, 0)) (by (with_reducible repeat (first | refine zN ?_ _ | refine zD ?_ | refine zA ?_ _)); exact BK551.out) k_ hk))
                 (case aO => exact (by (with_reducible repeat (first | apply Kd.R_alloc | apply Kd.R_drewN | apply Kd.R_drew)); exact HO_9.out))
                 (case aS => exact (below_size (by repeat (first | (with_reducible first | exact HB.out | apply yA | apply yN | apply yD | refine below_set ?_ GE551.out) | exact HB.out))))
                 (case aL => have := LMc17.out; omega)
                 intro v562 w31 ho hb hg hat
                 rw [← Ny561.out] at ho
                 have n0_ := Aside0.mk (Kd.S_after (ok := (fun k_ => k_ ≠ gb551)) (by (with_reducible repeat (first | apply Kd.S_alloc | apply Kd.S_drewN | apply Kd.S_drew)); exact Kd.S_mono HO_7.out (fun _ hk => ⟨hk.2, hk.1⟩)) hg hat)
                 have n1_ := Aside0.mk (blk_grown (g := gb551) (o := .cells #[.int .i64 ((rd_T61 (rd_L3 l1 x8_1) (ji12)).f0), .int .i64 (wrap64 (((rd_T61 (rd_L3 l1 x8_1) (ji12)).f1) + (wrap64 (Int.tdiv x10_3 ((rd_L3 l1 x8_1).length : Int))))), .string ((rd_T61 (rd_L3 l1 x8_1) (ji12)).f2)] 61 (0, 0)) (by (with_reducible repeat (first | refine zN ?_ _ | refine zD ?_ | refine zA ?_ _)); exact BK551.out) hg (Kd.R_away HO_9.out (fun _ hk => hk)))
                 have n2_ := Aside0.mk (hb)
                 have n3_ := Aside0.mk (ho)
                 clear HO_7
                 clear BK551
                 clear HB
                 clear HO_9
                 have HO_7 := n0_
                 have BK551 := n1_
                 have HB := n2_
                 have HO563 := n3_
                 clear n0_ n1_ n2_ n3_
                 clear ho hb hg hat
                 refine hK.out _ _ ⟨(blk_cell BK551.out 0).trans rfl, (blk_cell BK551.out 1).trans rfl, (blk_cell BK551.out 2).trans rfl, ((HB.out.cell (World.block_lt_of_cell? w _ hw557_0)).trans hw557_0), ((HB.out.cell (World.block_lt_of_cell? w _ hw557_1)).trans hw557_1)⟩ (fun hHeld => ?_)
                 clear hK K
                 refine norm_ (a' := ?_) ?_ ?_
                 rotate_left
                 ·show Act.put _ (some 68) _ = _
                  simp only [Act.put, List.setIfInBounds_toArray, List.set_cons_zero, List.set_cons_succ, i64_w, i32_w]
                  rfl
                 refine pure_ (i := 9) (N := some 9) (v := ?_) (a' := ?_) #[true, true, true, true, true, true, true, true, true, true] rfl rfl (any_of HT_.out (by kernel_rfl)) (fun _ _ _ h => h) (Or.inl ⟨by rfl, ?_⟩) ?_ ?_
                 rotate_left
                 ·intro w'
                  go_simp
                  with_reducible rfl
                 rotate_left
                 ·simp only [Act.put, List.setIfInBounds_toArray, List.set_cons_zero, List.set_cons_succ, i64_w, i32_w]
                  rfl
                 refine done_ (done_of HT_.out (by kernel_rfl)) ?_
                 try go_wp2
                 go_roundg k3
                 case measure => have := HK1.out; have := HJ3.out; have := HK3.out; omega
                 case rel => exact ⟨(y561), (wrap64 (x10_3 + 1)), (by first | rfl | (simp; done) | (simp [*]; done)), H', ⟨by have := HK1.out; have := HJ3.out; have := HK3.out; omega⟩, ⟨by (with_reducible repeat (first | apply Kd.S_alloc | apply Kd.S_drewN | apply Kd.S_drew)); exact Kd.S_mono HO_7.out (fun _ hk => hk.2)⟩, ⟨by (with_reducible repeat (first | apply Kd.R_alloc | apply Kd.R_drewN | apply Kd.R_drew)); exact Kd.R_mono HO563.out (fun _ hk => trivial)⟩, ⟨by repeat (first | (with_reducible first | exact HB.out | apply yA | apply yN | apply yD | refine below_set ?_ GE551.out) | exact HB.out)⟩⟩
                ·rw [if_neg c17] at H
                 exact absurd H (by simp)
               ·rw [if_neg c15] at H
                exact absurd H (by simp)
              ·rw [if_neg c14] at H
               exact absurd H (by simp)
             ·rw [if_neg c13] at H
              exact absurd H (by simp)
           ·rw [if_neg c10] at H
            have c10b0 : decide (0 < ((rd_L3 l1 x8_1).length : Int)) = false := decide_eq_false c10
            have c10b1 : decide (0 < (rd_L3 l1 x8_1).length) = false := decide_eq_false (by omega)
            clear c10
            by_cases c32 : 0 ≤ x10_3
            ·rw [if_pos c32] at H
             have c32b0 : decide (0 ≤ x10_3) = true := decide_eq_true c32
             clear c32
             replace H := Option.bind_eq_some_iff.mp H
             obtain ⟨⟨t565, t566, t567⟩, A330, H⟩ := H
             replace H : (if x9_3.length < 4398046511104 then (tacticianref02_TameRows.l1 k3 l0 l1 a2 x7_1 x8_1 (x9_3 ++ [(⟨t565, t566, t567⟩ : S61)]) (wrap64 (x10_3 + 1))) else (none)) = some r := H
             have A33 := Aside0.mk A330
             clear A330
             by_cases c34 : x9_3.length < 4398046511104
             ·rw [if_pos c34] at H
              have LMc34 := Aside0.mk c34
              clear c34
              obtain ⟨y568, hy568⟩ : ∃ y_ : List (S61), y_ = (x9_3 ++ [(⟨t565, t566, t567⟩ : S61)]) := ⟨_, rfl⟩
              replace H : (tacticianref02_TameRows.l1 k3 l0 l1 a2 x7_1 x8_1 y568 (wrap64 (x10_3 + 1))) = some r := by first | (rw [hy568]; with_reducible exact H) | (have H2_ := (Option.bind_some _ _).symm.trans H; rw [hy568]; with_reducible exact H2_) | (have H2_ := (Option.bind_some _ _).symm.trans H; with_reducible exact H2_) | with_reducible exact H | (rw [hy568]; exact H) | exact H
              have Ny568 := Aside0.mk hy568
              clear hy568
              have H' := Aside0.mk H
              clear H
              try go_wp2_with (first | ((with_reducible refine gate_dst (N := 11) rfl ?_); refine box_event ?hg (N := 11) ?hd (cs := #[.int .i64 0, .int .i64 0, .string (⟨#[]⟩ : ByteArray)]) (t := 61) ?hr ?_; (case hd => rfl); (case hg => rfl); (case hr => first | (go_simp; done) | (go_simp; rfl)); intro gb551 hg w35 hbox hb; have n0_ := Aside0.mk (Kd.S_below (Kd.S_elderB (by (with_reducible repeat (first | apply Kd.S_alloc | apply Kd.S_drewN | apply Kd.S_drew)); exact HO_7.out) gb551 (Nat.le_of_eq hg.symm)) hb); have n1_ := Aside0.mk (Kd.R_below (Kd.R_elderB (by (with_reducible repeat (first | apply Kd.R_alloc | apply Kd.R_drewN | apply Kd.R_drew)); exact HO_9.out) gb551 (Nat.le_of_eq hg.symm)) hb); have n2_ := Aside0.mk (below_step (by repeat (first | (with_reducible first | exact HB.out | apply yA | apply yN | apply yD) | exact HB.out)) hb); have n3_ := Aside0.mk (hbox); have n4_ := Aside0.mk ((by rw [hg]; exact (below_size (by repeat (first | (with_reducible first | exact HB.out | apply yA | apply yN | apply yD) | exact HB.out))) : w.heap.size ≤ gb551)); have n5_ := Aside0.mk ((by rw [hg]; exact (below_size (by repeat (first | (with_reducible first | exact HB.out | apply yA | apply yN | apply yD) | exact HB.out))) : w.heap.size ≤ gb551)); clear HO_7; clear HO_9; clear HB; have HO_7 := n0_; have HO_9 := n1_; have HB := n2_; have BK551 := n3_; have GW551 := n4_; have GE551 := n5_; clear n0_ n1_ n2_ n3_ n4_ n5_; clear hb hbox hg; have hcz36_0 : w35.cell? ⟨gb551, 0, none⟩ = some (.int .i64 0) := (blk_cell BK551.out 0).trans rfl; have hcz36_1 : w35.cell? ⟨gb551, 1, none⟩ = some (.int .i64 0) := (blk_cell BK551.out 1).trans rfl; have hcz36_2 : w35.cell? ⟨gb551, 2, none⟩ = some (.string (⟨#[]⟩ : ByteArray)) := (blk_cell BK551.out 2).trans rfl; have hfz36_0 := blk_frozen BK551.out 0; have hfz36_1 := blk_frozen BK551.out 1; have hfz36_2 := blk_frozen BK551.out 2; have p552 : 0 ≤ (x8_1 : Int) := of_decide_eq_true (by first | (with_reducible assumption) | assumption); have q552 : x8_1 < (l1.length : Int) := of_decide_eq_true (by first | (with_reducible assumption) | assumption); obtain ⟨ad552, A552_0, c552_0, e552, hx552_0, hl552_0, hi552_0⟩ := at_L3 HR1.out x8_1 p552 q552; cases e552; have hn552_0 : ad552.block ≠ gb551 := Nat.ne_of_lt (Nat.lt_of_lt_of_le (by have := World.block_lt_of_cell? _ _ hx552_0; first | rwa [add_block] at this | exact this) GW551.out); have hn552_1 : ad552.block ≠ gb551 := Nat.ne_of_lt (Nat.lt_of_lt_of_le (by have := World.block_lt_of_cell? _ _ hx552_0; first | rwa [add_block] at this | exact this) GW551.out); have hn552_2 : ad552.block ≠ gb551 := Nat.ne_of_lt (Nat.lt_of_lt_of_le (by have := World.block_lt_of_cell? _ _ hx552_0; first | rwa [add_block] at this | exact this) GW551.out); replace hx552_0 := (HB.out.cell (World.block_lt_of_cell? w _ hx552_0)).trans hx552_0; have HR552_0 := Aside0.mk hi552_0; have HC552_0 := Aside0.mk hl552_0; clear hi552_0 hl552_0; replace hx552_0 := (cell_far (p := ⟨gb551, 0, none⟩) (by first | (rw [add_block]; exact hn552_0) | (show (Addr.add _ _).block ≠ _; rw [add_block]; exact hn552_0) | exact hn552_0) (.int .i64 0)).trans hx552_0; replace hx552_0 := (cell_far (p := ⟨gb551, 1, none⟩) (by first | (rw [add_block]; exact hn552_1) | (show (Addr.add _ _).block ≠ _; rw [add_block]; exact hn552_1) | exact hn552_1) (.int .i64 0)).trans hx552_0; replace hx552_0 := (cell_far (p := ⟨gb551, 2, none⟩) (by first | (rw [add_block]; exact hn552_2) | (show (Addr.add _ _).block ≠ _; rw [add_block]; exact hn552_2) | exact hn552_2) (.string (⟨#[]⟩ : ByteArray))).trans hx552_0; clear hn552_0; clear hn552_1; clear hn552_2; replace p552 := eq_true p552; replace q552 := eq_true q552))
              have n0_ : Aside0 (Kd.S (Kd.slice 61 k61) 40 (((w35.setCell ⟨gb551, 0, none⟩ (.int .i64 0)).setCell ⟨gb551, 1, none⟩ (.int .i64 0)).setCell ⟨gb551, 2, none⟩ (.string (⟨#[]⟩ : ByteArray))) w.heap.size (fun k_ => some k_ ≠ (u9 : Value).ownBlock ∧ k_ ≠ gb551) u7 x7_1) := ⟨by (with_reducible repeat (first | apply Kd.S_alloc | apply Kd.S_drewN | apply Kd.S_drew)); exact Kd.S_mono (Kd.S_far (p := ⟨gb551, 2, none⟩) (Kd.S_far (p := ⟨gb551, 1, none⟩) (Kd.S_far (p := ⟨gb551, 0, none⟩) (Kd.S_mono HO_7.out (fun k_ hk => (⟨hk, hk.2⟩ : _ ∧ k_ ≠ gb551))) (fun _ hk => hk.2) (.int .i64 0)) (fun _ hk => hk.2) (.int .i64 0)) (fun _ hk => hk.2) (.string (⟨#[]⟩ : ByteArray))) (fun _ hk => ⟨hk.1.1, hk.1.2⟩)⟩
              have n1_ : Aside0 (Kd.R k61 61 (((w35.setCell ⟨gb551, 0, none⟩ (.int .i64 0)).setCell ⟨gb551, 1, none⟩ (.int .i64 0)).setCell ⟨gb551, 2, none⟩ (.string (⟨#[]⟩ : ByteArray))) w.heap.size (fun k_ => k_ ≠ gb551) u9 x9_3) := ⟨by (with_reducible repeat (first | apply Kd.R_alloc | apply Kd.R_drewN | apply Kd.R_drew)); exact Kd.R_mono (Kd.R_far (p := ⟨gb551, 2, none⟩) (Kd.R_far (p := ⟨gb551, 1, none⟩) (Kd.R_far (p := ⟨gb551, 0, none⟩) (Kd.R_mono HO_9.out (fun k_ hk => (⟨hk, hk.2⟩ : _ ∧ k_ ≠ gb551))) (fun _ hk => hk.2) (.int .i64 0)) (fun _ hk => hk.2) (.int .i64 0)) (fun _ hk => hk.2) (.string (⟨#[]⟩ : ByteArray))) (fun _ hk => hk.1.2)⟩
              have n2_ : Aside0 ((((w35.setCell ⟨gb551, 0, none⟩ (.int .i64 0)).setCell ⟨gb551, 1, none⟩ (.int .i64 0)).setCell ⟨gb551, 2, none⟩ (.string (⟨#[]⟩ : ByteArray))).heap[gb551]? = some (.cells #[.int .i64 0, .int .i64 0, .string (⟨#[]⟩ : ByteArray)] 61 (0, 0))) := ⟨by (with_reducible repeat (first | refine zN ?_ _ | refine zD ?_ | refine zA ?_ _)); refine blk_put (cs := #[.int .i64 0, .int .i64 0, .string (⟨#[]⟩ : ByteArray)]) ?_ 2 _ rfl; (with_reducible repeat (first | refine zN ?_ _ | refine zD ?_ | refine zA ?_ _)); refine blk_put (cs := #[.int .i64 0, .int .i64 0, .string (⟨#[]⟩ : ByteArray)]) ?_ 1 _ rfl; (with_reducible repeat (first | refine zN ?_ _ | refine zD ?_ | refine zA ?_ _)); refine blk_put (cs := #[.int .i64 0, .int .i64 0, .string (⟨#[]⟩ : ByteArray)]) ?_ 0 _ rfl; (with_reducible repeat (first | refine zN ?_ _ | refine zD ?_ | refine zA ?_ _)); exact BK551.out⟩
              have n3_ : Aside0 (Below w.heap.size w (((w35.setCell ⟨gb551, 0, none⟩ (.int .i64 0)).setCell ⟨gb551, 1, none⟩ (.int .i64 0)).setCell ⟨gb551, 2, none⟩ (.string (⟨#[]⟩ : ByteArray)))) := ⟨by repeat (first | (with_reducible first | exact HB.out | apply yA | apply yN | apply yD | refine below_set ?_ GE551.out) | exact HB.out)⟩
              (try clear HO_7)
              (try clear HO_9)
              (try clear BK551)
              (try clear HB)
              generalize (((w35.setCell ⟨gb551, 0, none⟩ (.int .i64 0)).setCell ⟨gb551, 1, none⟩ (.int .i64 0)).setCell ⟨gb551, 2, none⟩ (.string (⟨#[]⟩ : ByteArray))) = w37 at n0_ n1_ n2_ n3_ ⊢
              have HO_7 := n0_
              have HO_9 := n1_
              have BK551 := n2_
              have HB := n3_
              clear n0_ n1_ n2_ n3_
              have n0_ := Aside0.mk (Kd.S_drew HO_7.out)
              have n1_ := Aside0.mk (Kd.R_drew HO_9.out)
              have n2_ := Aside0.mk (blk_drew BK551.out)
              have n3_ := Aside0.mk (below_drew1 HB.out)
              clear HO_7
              clear HO_9
              clear BK551
              clear HB
              have HO_7 := n0_
              have HO_9 := n1_
              have BK551 := n2_
              have HB := n3_
              clear n0_ n1_ n2_ n3_
              have p564 : 0 ≤ (x10_3 : Int) := of_decide_eq_true (by first | (with_reducible assumption) | assumption)
              have q564 : x10_3 < (l0.length : Int) := of_decide_eq_true (by first | (with_reducible assumption) | assumption)
              obtain ⟨ad564, e564, hx564_0, hx564_1⟩ := at_T88 HR0.out x10_3 p564 q564
              have hw564_1 := hx564_1
              have hw564_0 := hx564_0
              cases e564
              replace hx564_0 := (HB.out.cell (World.block_lt_of_cell? w _ hx564_0)).trans hx564_0
              replace hx564_1 := (HB.out.cell (World.block_lt_of_cell? w _ hx564_1)).trans hx564_1
              replace p564 := eq_true p564
              replace q564 := eq_true q564
              refine start_ (n := 10) (S := fun w' => w'.cell? ⟨gb551, 0, none⟩ = some (.int .i64 0) ∧ w'.cell? ⟨gb551, 1, none⟩ = some (.int .i64 0) ∧ w'.cell? ⟨gb551, 2, none⟩ = some (.string (⟨#[]⟩ : ByteArray)) ∧ w'.cell? (ad564.add ((x10_3).toNat * 2)) = some (.int .i64 ((rd_T88 l0 x10_3).f0)) ∧ w'.cell? ⟨(ad564.add ((x10_3).toNat * 2)).block, (ad564.add ((x10_3).toNat * 2)).off + 1, none⟩ = some (.bool ((rd_T88 l0 x10_3).f1))) (ds := []) #[false, false, false, false, false, false, false, false, false, false] (by kernel_rfl) rfl rfl ⟨(blk_cell BK551.out 0).trans rfl, (blk_cell BK551.out 1).trans rfl, (blk_cell BK551.out 2).trans rfl, ((HB.out.cell (World.block_lt_of_cell? w _ hw564_0)).trans hw564_0), ((HB.out.cell (World.block_lt_of_cell? w _ hw564_1)).trans hw564_1)⟩ (fun hHeld => ?_); refine with_tabW tacticianref02_TameRows.tab13 tacticianref02_TameRows.bits13 (fun HT_ HW_ => ?_)
              generalize w37.drew = w38 at HO_7 HO_9 BK551 HB hx564_0 hx564_1 hHeld ⊢
              refine pure_ (i := 0) (N := some 60) (v := ?_) (a' := ?_) #[true, false, false, false, false, false, false, false, false, false] rfl rfl (any_of HT_.out (by kernel_rfl)) (fun _ _ _ h => h) (Or.inl ⟨by rfl, ?_⟩) ?_ ?_
              rotate_left
              ·intro w'
               go_simp
               with_reducible rfl
              rotate_left
              ·simp only [Act.put, List.setIfInBounds_toArray, List.set_cons_zero, List.set_cons_succ, i64_w, i32_w]
               rfl
              refine pure_ (i := 2) (N := some 62) (v := ?_) (a' := ?_) #[true, false, true, false, false, false, false, false, false, false] rfl rfl (any_of HT_.out (by kernel_rfl)) (fun _ _ _ h => h) (Or.inl ⟨by rfl, ?_⟩) ?_ ?_
              rotate_left
              ·intro w'
               go_simp
               with_reducible rfl
              rotate_left
              ·simp only [Act.put, List.setIfInBounds_toArray, List.set_cons_zero, List.set_cons_succ, i64_w, i32_w]
               rfl
              refine pure_ (i := 3) (N := some 63) (v := ?_) (a' := ?_) #[true, false, true, true, false, false, false, false, false, false] rfl rfl (any_of HT_.out (by kernel_rfl)) (fun _ _ _ h => h) (Or.inl ⟨by rfl, ?_⟩) ?_ ?_
              rotate_left
              ·intro w'
               go_simp
               with_reducible rfl
              rotate_left
              ·simp only [Act.put, List.setIfInBounds_toArray, List.set_cons_zero, List.set_cons_succ, i64_w, i32_w]
               rfl
              refine pure_ (i := 4) (N := some 64) (v := ?_) (a' := ?_) #[true, false, true, true, true, false, false, false, false, false] rfl rfl (any_of HT_.out (by kernel_rfl)) (fun _ _ _ h => h) (Or.inl ⟨by rfl, ?_⟩) ?_ ?_
              rotate_left
              ·intro w'
               go_simp
               with_reducible rfl
              rotate_left
              ·simp only [Act.put, List.setIfInBounds_toArray, List.set_cons_zero, List.set_cons_succ, i64_w, i32_w]
               rfl
              refine take_ (i := 1) (N := some 61) (v := ?_) (a' := ?_) #[true, true, true, true, true, false, false, false, false, false] rfl rfl (take_ofW HT_.out HW_.out (by kernel_rfl)) (fun _ _ _ h => h) (Or.inl ⟨by rfl, ?_⟩) hHeld ?_ ?_
              rotate_left
              ·rintro w' ⟨s0, s1, s2, s3, s4⟩
               go_simp
               with_reducible rfl
              rotate_left
              ·simp only [Act.put, List.setIfInBounds_toArray, List.set_cons_zero, List.set_cons_succ, i64_w, i32_w]
               rfl
              refine take_ (i := 5) (N := some 65) (v := ?_) (a' := ?_) #[true, true, true, true, true, true, false, false, false, false] rfl rfl (take_ofW HT_.out HW_.out (by kernel_rfl)) (fun _ _ _ h => h) (Or.inl ⟨by rfl, ?_⟩) hHeld ?_ ?_
              rotate_left
              ·rintro w' ⟨s0, s1, s2, s3, s4⟩
               go_simp
               with_reducible rfl
              rotate_left
              ·simp only [Act.put, List.setIfInBounds_toArray, List.set_cons_zero, List.set_cons_succ, i64_w, i32_w]
               rfl
              refine one_ (i := 6) (N := some 66) #[true, true, true, true, true, true, true, false, false, false] rfl rfl (one_of HT_.out (by kernel_rfl)) (by decide) (fun K hK => ?_)
              refine goes_ Tryz.func112 (by kernel_rfl) rfl #[.agg #[.int .i64 0, .int .i64 0, .string (⟨#[]⟩ : ByteArray)], .agg #[.int .i64 ((rd_T88 l0 x10_3).f0), .bool ((rd_T88 l0 x10_3).f1)]] (by rfl) rfl rfl (by (try simp only [List.map_toArray, List.map_cons, List.map_nil]); first | done | rfl | (simp only [List.length_drop, List.length_take]; rfl)) ?_
              with_reducible refine (tacticianref01_TameAs.calls k3 0 0 (⟨#[]⟩ : ByteArray) ((rd_T88 l0 x10_3).f0) ((rd_T88 l0 x10_3).f1) t565 t566 t567 _ A33.out).mono ?_
              rintro e w39 ⟨rfl, hb⟩
              refine ⟨_, rfl, ?_⟩
              have n0_ := Aside0.mk (Kd.S_below (by (with_reducible repeat (first | apply Kd.S_alloc | apply Kd.S_drewN | apply Kd.S_drew)); exact HO_7.out) hb)
              have n1_ := Aside0.mk (Kd.R_below (by (with_reducible repeat (first | apply Kd.R_alloc | apply Kd.R_drewN | apply Kd.R_drew)); exact HO_9.out) hb)
              have n2_ := Aside0.mk (blk_below (g := gb551) (o := .cells #[.int .i64 0, .int .i64 0, .string (⟨#[]⟩ : ByteArray)] 61 (0, 0)) (by (with_reducible repeat (first | refine zN ?_ _ | refine zD ?_ | refine zA ?_ _)); exact BK551.out) hb)
              have n3_ := Aside0.mk (below_step (by repeat (first | (with_reducible first | exact HB.out | apply yA | apply yN | apply yD | refine below_set ?_ GE551.out) | exact HB.out)) hb)
              clear HO_7
              clear HO_9
              clear BK551
              clear HB
              have HO_7 := n0_
              have HO_9 := n1_
              have BK551 := n2_
              have HB := n3_
              clear n0_ n1_ n2_ n3_
              (try clear hb)
              (try clear hb2)
              (try clear hk)
              (try clear hi)
              refine hK.out _ _ ⟨(blk_cell BK551.out 0).trans rfl, (blk_cell BK551.out 1).trans rfl, (blk_cell BK551.out 2).trans rfl, ((HB.out.cell (World.block_lt_of_cell? w _ hw564_0)).trans hw564_0), ((HB.out.cell (World.block_lt_of_cell? w _ hw564_1)).trans hw564_1)⟩ (fun hHeld => ?_)
              clear hK K
              refine norm_ (a' := ?_) ?_ ?_
              rotate_left
              ·show Act.put _ (some 66) _ = _
               simp only [Act.put, List.setIfInBounds_toArray, List.set_cons_zero, List.set_cons_succ, i64_w, i32_w]
               rfl
              refine one_ (i := 7) (N := some 67) #[true, true, true, true, true, true, true, true, false, false] rfl rfl (one_of HT_.out (by kernel_rfl)) (by decide) (fun K hK => ?_)
              refine value_ (w1 := ?_) (v := ?_) (by rfl) rfl ?_ ?_
              rotate_left 2
              ·go_simp
               constructor
               ·rfl
               ·rfl
              refine hK.out _ _ ⟨(blk_cell (blk_alloc BK551.out _) 0).trans rfl, (blk_cell (blk_alloc BK551.out _) 1).trans rfl, (blk_cell (blk_alloc BK551.out _) 2).trans rfl, (World.cell?_alloc_lt _ _ _ (World.block_lt_of_cell? _ _ (((HB.out.cell (World.block_lt_of_cell? w _ hw564_0)).trans hw564_0)))).trans (((HB.out.cell (World.block_lt_of_cell? w _ hw564_0)).trans hw564_0)), (World.cell?_alloc_lt _ _ _ (World.block_lt_of_cell? _ _ (((HB.out.cell (World.block_lt_of_cell? w _ hw564_1)).trans hw564_1)))).trans (((HB.out.cell (World.block_lt_of_cell? w _ hw564_1)).trans hw564_1))⟩ (fun hHeld => ?_)
              clear hK K
              refine norm_ (a' := ?_) ?_ ?_
              rotate_left
              ·show Act.put _ (some 67) _ = _
               simp only [Act.put, List.setIfInBounds_toArray, List.set_cons_zero, List.set_cons_succ, i64_w, i32_w]
               rfl
              refine one_ (i := 8) (N := some 68) #[true, true, true, true, true, true, true, true, true, false] rfl rfl (one_of HT_.out (by kernel_rfl)) (by decide) (fun K hK => ?_)
              refine Kd.R_append_step k61 (w0 := w) w.heap.size (by rfl) (.tmp 60) (.tmp 67) 40 61 (.agg #[(.int .i64 0), (.int .i64 0), (.string ⟨#[]⟩)]) 32 rfl Tryz.underlying40 info61 rfl (by decide) (by omega) u9 x9_3 (⟨t565, t566, t567⟩ : S61) [.int .i64 t565, .int .i64 t566, .string t567] (fun k_ => k_ ≠ gb551) (fun _ => False) rfl rfl ?aP (fun _ hk => hk.elim) ?aF ?aO ?aB ?aS ?aL ?_
              (case aP => exact k61_mkM _ _ _ (⟨t565, t566, t567⟩ : S61))
              (case aB => exact (by repeat (first | (with_reducible first | exact HB.out | apply yA | apply yN | apply yD | refine below_set ?_ GE551.out) | exact HB.out)))
              (case aF => exact (fun k_ hk => Kd.freshB (g := gb551) (o := .cells #[.int .i64 0, .int .i64 0, .string (⟨#[]⟩ : ByteArray)] 61 (0, 0)) (by (with_reducible repeat (first | refine zN ?_ _ | refine zD ?_ | refine zA ?_ _)); exact BK551.out) k_ hk))
              (case aO => exact (by (with_reducible repeat (first | apply Kd.R_alloc | apply Kd.R_drewN | apply Kd.R_drew)); exact HO_9.out))
              (case aS => exact (below_size (by repeat (first | (with_reducible first | exact HB.out | apply yA | apply yN | apply yD | refine below_set ?_ GE551.out) | exact HB.out))))
              (case aL => have := LMc34.out; omega)
              intro v569 w40 ho hb hg hat
              rw [← Ny568.out] at ho
              have n0_ := Aside0.mk (Kd.S_after (ok := (fun k_ => k_ ≠ gb551)) (by (with_reducible repeat (first | apply Kd.S_alloc | apply Kd.S_drewN | apply Kd.S_drew)); exact Kd.S_mono HO_7.out (fun _ hk => ⟨hk.2, hk.1⟩)) hg hat)
              have n1_ := Aside0.mk (blk_grown (g := gb551) (o := .cells #[.int .i64 0, .int .i64 0, .string (⟨#[]⟩ : ByteArray)] 61 (0, 0)) (by (with_reducible repeat (first | refine zN ?_ _ | refine zD ?_ | refine zA ?_ _)); exact BK551.out) hg (Kd.R_away HO_9.out (fun _ hk => hk)))
              have n2_ := Aside0.mk (hb)
              have n3_ := Aside0.mk (ho)
              clear HO_7
              clear BK551
              clear HB
              clear HO_9
              have HO_7 := n0_
              have BK551 := n1_
              have HB := n2_
              have HO570 := n3_
              clear n0_ n1_ n2_ n3_
              clear ho hb hg hat
              refine hK.out _ _ ⟨(blk_cell BK551.out 0).trans rfl, (blk_cell BK551.out 1).trans rfl, (blk_cell BK551.out 2).trans rfl, ((HB.out.cell (World.block_lt_of_cell? w _ hw564_0)).trans hw564_0), ((HB.out.cell (World.block_lt_of_cell? w _ hw564_1)).trans hw564_1)⟩ (fun hHeld => ?_)
              clear hK K
              refine norm_ (a' := ?_) ?_ ?_
              rotate_left
              ·show Act.put _ (some 68) _ = _
               simp only [Act.put, List.setIfInBounds_toArray, List.set_cons_zero, List.set_cons_succ, i64_w, i32_w]
               rfl
              refine pure_ (i := 9) (N := some 9) (v := ?_) (a' := ?_) #[true, true, true, true, true, true, true, true, true, true] rfl rfl (any_of HT_.out (by kernel_rfl)) (fun _ _ _ h => h) (Or.inl ⟨by rfl, ?_⟩) ?_ ?_
              rotate_left
              ·intro w'
               go_simp
               with_reducible rfl
              rotate_left
              ·simp only [Act.put, List.setIfInBounds_toArray, List.set_cons_zero, List.set_cons_succ, i64_w, i32_w]
               rfl
              refine done_ (done_of HT_.out (by kernel_rfl)) ?_
              try go_wp2
              go_roundg k3
              case measure => have := HK1.out; have := HJ3.out; have := HK3.out; omega
              case rel => exact ⟨(y568), (wrap64 (x10_3 + 1)), (by first | rfl | (simp; done) | (simp [*]; done)), H', ⟨by have := HK1.out; have := HJ3.out; have := HK3.out; omega⟩, ⟨by (with_reducible repeat (first | apply Kd.S_alloc | apply Kd.S_drewN | apply Kd.S_drew)); exact Kd.S_mono HO_7.out (fun _ hk => hk.2)⟩, ⟨by (with_reducible repeat (first | apply Kd.R_alloc | apply Kd.R_drewN | apply Kd.R_drew)); exact Kd.R_mono HO570.out (fun _ hk => trivial)⟩, ⟨by repeat (first | (with_reducible first | exact HB.out | apply yA | apply yN | apply yD | refine below_set ?_ GE551.out) | exact HB.out)⟩⟩
             ·rw [if_neg c34] at H
              exact absurd H (by simp)
            ·rw [if_neg c32] at H
             exact absurd H (by simp)
          ·rw [if_neg c9] at H
           exact absurd H (by simp)
         ·rw [if_neg c8] at H
          exact absurd H (by simp)
        ·rw [if_neg c7] at H
         have c7b0 : decide (x10_3 < (l0.length : Int)) = false := decide_eq_false c7
         clear c7
         by_cases c41 : x7_1.length < 5864062014805
         ·rw [if_pos c41] at H
          have LMc41 := Aside0.mk c41
          clear c41
          obtain ⟨y571, hy571⟩ : ∃ y_ : List (List (S61)), y_ = (x7_1 ++ [x9_3]) := ⟨_, rfl⟩
          replace H : (tacticianref02_TameRows.l0 k3 l0 l1 a2 y571 (wrap64 (x8_1 + 1))) = some r := by first | (rw [hy571]; with_reducible exact H) | (have H2_ := (Option.bind_some _ _).symm.trans H; rw [hy571]; with_reducible exact H2_) | (have H2_ := (Option.bind_some _ _).symm.trans H; with_reducible exact H2_) | with_reducible exact H | (rw [hy571]; exact H) | exact H
          have Ny571 := Aside0.mk hy571
          clear hy571
          have H' := Aside0.mk H
          clear H
          obtain ⟨Ao43, co43, eo43⟩ := Kd.R_slice HO_9.out
          subst eo43
          go_wp2_with (first | ((with_reducible refine gate_builtin (b := .append) (xs := #[.tmp 69, .tmp 71]) rfl ?_); at_builtin; refine Kd.S_append (Kd.slice 61 k61) (w0 := w) w.heap.size rfl (.tmp 69) (.tmp 71) 22 40 (.slice none 0 0) 24 rfl Tryz.underlying22 info40 rfl (by decide) (by omega) u7 x7_1 x9_3 [.slice Ao43 x9_3.length co43] (fun _ => True) (fun k_ => some k_ = (.slice Ao43 x9_3.length co43 : Value).ownBlock) rfl rfl ?aP (fun k_ hk_ => ((Kd.R_mono (ok' := fun k_ => ((fun _ => True)) k_ ∧ some k_ ≠ (u7 : Value).ownBlock) (Kd.R_apart' (HO_9.out) (Kd.S_typed HO_7.out) (by decide)) (fun k_ hk => ⟨trivial, hk.2⟩))).1 k_ hk_.symm) ?aF ?aO ?aB ?aS ?aL ?_; (case aP => exact Kd.M_row (Kd.R_mono (Kd.R_tight rfl (Kd.R_mono (ok' := fun k_ => ((fun _ => True)) k_ ∧ some k_ ≠ (u7 : Value).ownBlock) (Kd.R_apart' (HO_9.out) (Kd.S_typed HO_7.out) (by decide)) (fun k_ hk => ⟨trivial, hk.2⟩))) (fun _ h_ => h_))); (case aB => exact (by repeat (first | (with_reducible first | exact HB.out | apply yA | apply yN | apply yD) | exact HB.out))); (case aF => exact (fun _ _ => trivial)); (case aO => exact (by (with_reducible repeat (first | apply Kd.S_alloc | apply Kd.S_drewN | apply Kd.S_drew)); exact Kd.S_mono HO_7.out (fun k_ hk => ⟨trivial, fun e_ => hk e_⟩))); (case aS => exact (below_size (by repeat (first | (with_reducible first | exact HB.out | apply yA | apply yN | apply yD) | exact HB.out)))); (case aL => have := LMc41.out; omega); intro v572 w42 ho hb hg hat; rw [← Ny571.out] at ho; have n0_ := Aside0.mk (hb); have n1_ := Aside0.mk (ho); clear HB; clear HO_7; clear HO_9; have HB := n0_; have HO573 := n1_; clear n0_ n1_; clear ho hb hg hat))
          go_roundg k3
          case measure => have := HK1.out; have := HJ3.out; have := HK3.out; omega
          case rel => exact ⟨(y571), (wrap64 (x8_1 + 1)), (by first | rfl | (simp; done) | (simp [*]; done)), H', ⟨by have := HK1.out; have := HJ3.out; have := HK3.out; omega⟩, ⟨by (with_reducible repeat (first | apply Kd.S_alloc | apply Kd.S_drewN | apply Kd.S_drew)); exact HO573.out⟩, ⟨by repeat (first | (with_reducible first | exact HB.out | apply yA | apply yN | apply yD) | exact HB.out)⟩⟩
         ·rw [if_neg c41] at H
          exact absurd H (by simp)
     ·replace c6 := Bool.eq_false_iff.mpr c6
      subst c6
      have H1 : (some x7_1) = some r := by rw [if_neg (show ¬ (false = true) by decide)] at H; exact H
      clear H
      have H := H1
      clear H1
      obtain rfl := Option.some.inj H
      go_wp2
      go_ret
      exact ⟨_, by first | rfl | (simp [errW_none, errW_some] <;> rfl) | (simp [*, errW_none, errW_some] <;> rfl), by (with_reducible repeat (first | apply Kd.S_alloc | apply Kd.S_drewN | apply Kd.S_drew)); exact HO_7.out, by repeat (first | (with_reducible first | exact HB.out | apply yA | apply yN | apply yD) | exact HB.out)⟩
end Go.Proofs.YtmhobbdedmjmnaaGreatDoor.Q
end
section
/- Each function reached is shown to return what the plain function beside it computes, wherever that is defined (written by a program of ours for this seat). -/
namespace Go.Proofs.YtmhobbdedmjmnaaGreatDoor.Q
open Go.RowKit Go.Proofs.YtmhobbdedmjmnaaGreatDoorW.PrintWords Go.Proofs.YtmhobbdedmjmnaaGreatDoorW.PrintLast Go.Proofs.YtmhobbdedmjmnaaGreatDoorW.PrintMore
attribute [local go_sem] max2_int min2_int max_two min_two max_three min_three max_four min_four   -- for this text's walks alone
set_option linter.unusedVariables false
set_option linter.unusedSimpArgs false
def tacticianlaw02_some.f (k : Nat) (l0 : List (List (S61))) (a1 : Int) : Option ((List (List (S61)))) := (tacticianref02_TameRows.f k (([(⟨1, true⟩ : S88), (⟨3, false⟩ : S88), (⟨2, true⟩ : S88)] : List (S88))) l0 a1).bind fun t577 => (some t577)
set_option maxHeartbeats 8000000 in
set_option maxRecDepth 100000 in
theorem tacticianlaw02_some.calls (k : Nat) (A0 : Option Addr) (c0 : Nat) (l0 : List (List (S61))) (a1 : Int) (r : List (List (S61))) (w : World) (hr0 : Kd.C (Kd.slice 61 k61) w A0 l0.length l0) (hc0 : l0.length ≤ c0) (h : tacticianlaw02_some.f k l0 a1 = some r) :
  Calls Tryz.prog 38 #[.slice A0 l0.length c0, .int .i64 a1] w fun e w' => ∃ v0_ : Value, e = .returned (v0_) ∧ Kd.S (Kd.slice 61 k61) 40 w' w.heap.size (fun _ => True) v0_ r ∧ Below w.heap.size w w' := by
 have hu88 := Tryz.underlying88
 have HR0 := Aside0.mk hr0
 have HC0 := Aside0.mk hc0
 clear hr0 hc0
 have HB := Aside0.mk (Below.refl w.heap.size w)
 have H : ((tacticianref02_TameRows.f k (([(⟨1, true⟩ : S88), (⟨3, false⟩ : S88), (⟨2, true⟩ : S88)] : List (S88))) l0 a1).bind fun t577 => (some t577)) = some r := h
 clear h
 obtain ⟨y574, hy574⟩ : ∃ y_ : List (S88), y_ = (([(⟨1, true⟩ : S88), (⟨3, false⟩ : S88), (⟨2, true⟩ : S88)] : List (S88))) := ⟨_, rfl⟩
 replace H : ((tacticianref02_TameRows.f k y574 l0 a1).bind fun t577 => (some t577)) = some r := by first | (rw [hy574]; with_reducible exact H) | (have H2_ := (Option.bind_some _ _).symm.trans H; rw [hy574]; with_reducible exact H2_) | (have H2_ := (Option.bind_some _ _).symm.trans H; with_reducible exact H2_) | with_reducible exact H | (rw [hy574]; exact H) | exact H
 have Ny574 := Aside0.mk hy574
 clear hy574
 replace H := Option.bind_eq_some_iff.mp H
 obtain ⟨t577, A30, H⟩ := H
 replace H : (some t577) = some r := H
 have A3 := Aside0.mk A30
 clear A30
 obtain rfl := Option.some.inj H
 go_enter Tryz.func38, Tryz.ntmps38
 go_wp2_with (first | ((with_reducible refine gate_dst (N := 8) rfl ?_); refine Kd.R_lit k88 _ 88 ?hg (N := 8) ?hd (xs := ([(⟨1, true⟩ : S88), (⟨3, false⟩ : S88), (⟨2, true⟩ : S88)] : List (S88))) (inner := [.int .i64 1, .bool true, .int .i64 3, .bool false, .int .i64 2, .bool true]) (ok := fun _ => True) (okp := fun _ => True) ?hr ?hp (fun _ hk => hk) trivial (Below.refl _ _) (Nat.le_refl _) (by simp) ?_; (case hd => rfl); (case hg => rfl); (case hr => first | (go_simp; done) | (go_simp; rfl)); (case hp => exact (Reps.c2 (show Kd.M k88 _ _ _ (⟨1, true⟩ : S88) [.int .i64 1, .bool true] from (k88_mkM _ _ _ (⟨1, true⟩ : S88) )) (Reps.c2 (show Kd.M k88 _ _ _ (⟨3, false⟩ : S88) [.int .i64 3, .bool false] from (k88_mkM _ _ _ (⟨3, false⟩ : S88) )) (Reps.c2 (show Kd.M k88 _ _ _ (⟨2, true⟩ : S88) [.int .i64 2, .bool true] from (k88_mkM _ _ _ (⟨2, true⟩ : S88) )) (Reps.none _ _))))); intro v575 w4 ho5 hb hg_ hnew_; clear hg_ hnew_; (first | rw [← Ny574.out] at ho5 | (simp only [Int.reduceToNat] at ho5; rw [← Ny574.out] at ho5)); have n0_ := Aside0.mk (Kd.R_lower ho5 (below_size (by repeat (first | (with_reducible first | exact HB.out | apply yA | apply yN | apply yD) | exact HB.out)))); have n1_ := Aside0.mk (below_step (by repeat (first | (with_reducible first | exact HB.out | apply yA | apply yN | apply yD) | exact HB.out)) hb); clear HB; have HO576 := n0_; have HB := n1_; clear n0_ n1_; clear hb ho5; obtain ⟨Ao6, co6, eo6⟩ := Kd.R_slice HO576.out; subst eo6) | ((with_reducible refine gate_callee (f := 73) rfl ?_); refine goesL_ (some 11) rfl rfl Tryz.func73 (by kernel_rfl) rfl #[.slice Ao6 y574.length co6, .slice A0 l0.length c0, .int .i64 a1] rfl (by (try simp only [List.map_toArray, List.map_cons, List.map_nil]); first | done | rfl | (simp only [List.length_drop, List.length_take]; rfl)) ?_; (with_reducible refine (tacticianref02_TameRows.calls k _ _ y574 _ _ l0 a1 t577 _ ?side1 ?side2 ?side3 ?side4 A3.out).mono ?_); (case side1 => repeat (first | exact (Kd.R_reads' HO576.out).2.2 | (with_reducible refine Kd.C_alloc ?_ _) | (with_reducible refine Kd.C_drewN ?_ _) | (with_reducible refine Kd.C_drew ?_))); (case side2 => exact (Kd.R_reads' HO576.out).2.1); (case side3 => repeat (first | exact (Kd.C_below HR0.out HB.out) | (with_reducible refine Kd.C_alloc ?_ _) | (with_reducible refine Kd.C_drewN ?_ _) | (with_reducible refine Kd.C_drew ?_))); (case side4 => exact HC0.out); rintro e w7 ⟨v578, rfl, ho0, hb⟩; refine ⟨_, rfl, ?_⟩; have n0_ := Aside0.mk (Kd.R_below (by (with_reducible repeat (first | apply Kd.R_alloc | apply Kd.R_drewN | apply Kd.R_drew)); exact HO576.out) hb); have n1_ := Aside0.mk (Kd.S_lower ho0 (below_size (by repeat (first | (with_reducible first | exact HB.out | apply yA | apply yN | apply yD) | exact HB.out)))); have n2_ := Aside0.mk (below_step (by repeat (first | (with_reducible first | exact HB.out | apply yA | apply yN | apply yD) | exact HB.out)) hb); clear HO576; clear HB; have HO576 := n0_; have HO579 := n1_; have HB := n2_; clear n0_ n1_ n2_; (try clear hb); (try clear hb2); (try clear hk); (try clear hi); (try clear ho0)))
 go_ret
 exact ⟨_, by first | rfl | (simp [errW_none, errW_some] <;> rfl) | (simp [*, errW_none, errW_some] <;> rfl), by (with_reducible repeat (first | apply Kd.S_alloc | apply Kd.S_drewN | apply Kd.S_drew)); exact HO579.out, by repeat (first | (with_reducible first | exact HB.out | apply yA | apply yN | apply yD) | exact HB.out)⟩
end Go.Proofs.YtmhobbdedmjmnaaGreatDoor.Q
end
section
/- What the word some of the laws on rows answers: right rows of three columns; no program in sight. -/
namespace Go.Proofs.YtmhobbdedmjmnaaGreatDoor
open Go.RowKit Go.Proofs.YtmhobbdedmjmnaaGreatDoor.Q Go.Proofs.YtmhobbdedmjmnaaGreatDoorW.PrintWords Go.Proofs.YtmhobbdedmjmnaaGreatDoorW.PrintLast Go.Proofs.YtmhobbdedmjmnaaGreatDoorW.PrintMore
set_option linter.unusedSimpArgs false
set_option linter.unusedVariables false
/-- what is a value, in few bytes -/
def SmallV (a b : Int) (c : ByteArray) : Prop := okV a b c = true ∧ c.size ≤ 3
theorem inI64_wrap (n : Int) : inI64 (wrap64 n) = true := by
  refine inI64_mk ?_ ?_ <;> (unfold wrap64; omega)
theorem ab_one (m : Nat) (h : m < 3) : ((⟨#[97, 98, 39]⟩ : ByteArray).extract m (m + 1)).size = 1 ∧ prL ((⟨#[97, 98, 39]⟩ : ByteArray).extract m (m + 1)).data.toList = true := by
  match m, h with
  | 0, _ => decide
  | 1, _ => decide
  | 2, _ => decide
theorem tameAs_loop (t : ByteArray) (p q : Int) : ∀ (d i k : Nat) (acc : ByteArray), i + d = min t.size 3 → d < k → acc.size = i → prL acc.data.toList = true →
    ∃ c, tacticianref01_TameAs.l0 k acc (i : Int) p q t = some (3, 0, c) ∧ c.size ≤ 3 ∧ prL c.data.toList = true := by
  intro d
  induction d with
  | zero =>
    intro i k acc hi hk hs hp
    obtain ⟨k, rfl⟩ : ∃ m, k = m + 1 := ⟨k - 1, by omega⟩
    refine ⟨acc, ?_, by omega, hp⟩
    rw [tacticianref01_TameAs.l0]
    by_cases h : i < t.size
    · rw [if_pos (by omega), if_neg (by omega)]; rfl
    · rw [if_neg (by omega)]; rfl
  | succ d ih =>
    intro i k acc hi hk hs hp
    obtain ⟨k, rfl⟩ : ∃ m, k = m + 1 := ⟨k - 1, by omega⟩
    have hlt : i < t.size := by omega
    have hb := bt_get t i hlt
    generalize t.data.toList[i]'(by rw [Array.length_toList]; exact hlt) = c at hb
    have hm : Int.tmod (c.toNat : Int) 3 = ((c.toNat % 3 : Nat) : Int) := rfl
    have hm3 : c.toNat % 3 < 3 := Nat.mod_lt _ (by omega)
    obtain ⟨h1, h2⟩ := ab_one (c.toNat % 3) hm3
    have he : ((((c.toNat % 3 : Nat) : Int) + 1) % 256) = ((c.toNat % 3 + 1 : Nat) : Int) := by omega
    rw [tacticianref01_TameAs.l0, if_pos (by omega), if_pos (by omega), if_pos (by omega), hb, hm, he, if_pos (by omega), if_pos (by omega), if_pos (by omega), Int.toNat_natCast, Int.toNat_natCast, if_pos (by rw [h1]; omega), wrap_small (n := (i : Int) + 1) (by omega) (by omega), show ((i : Int) + 1) = ((i + 1 : Nat) : Int) by omega]
    refine ih (i + 1) k _ (by omega) (by omega) (by rw [ByteArray.size_append, h1, hs]) ?_
    rw [append_data]
    unfold prL at hp h2 ⊢
    rw [List.all_append, hp, h2]
    rfl
theorem smallV_text {c : ByteArray} (h : c.size ≤ 3) (hp : prL c.data.toList = true) : SmallV 3 0 c := by
  refine ⟨?_, h⟩
  have h2 : c.size ≤ 200 := by omega
  unfold okV isB
  simp [h2, hp]
  decide
theorem tameAs_j0 (x : Bool) (a b : Int) (c : ByteArray) (kd : Int) (nl : Bool) (hb : inI64 b = true) (k : Nat) (hk : 5 ≤ k) : ∃ p, tacticianref01_TameAs.j0 k x a b c kd nl = some p ∧ SmallV p.1 p.2.1 p.2.2 := by
  obtain ⟨k, rfl⟩ : ∃ m, k = m + 1 := ⟨k - 1, by omega⟩
  rw [tacticianref01_TameAs.j0]
  unfold tacticianref01_Null.f tacticianref01_Bool.f tacticianref01_Int.f
  cases x with
  | true => exact ⟨_, rfl, by decide, by decide⟩
  | false =>
    rw [if_neg (by decide)]
    by_cases h2 : kd = 2
    · rw [if_pos h2]
      cases (Int.tmod b 2 != 0) with
      | true => exact ⟨_, rfl, by decide, by decide⟩
      | false => exact ⟨_, rfl, by decide, by decide⟩
    · rw [if_neg h2]
      by_cases h3 : kd = 3
      · rw [if_pos h3]
        obtain ⟨d, e, hs, hp⟩ := tameAs_loop c a b (min c.size 3) 0 k ⟨#[]⟩ (by omega) (by omega) rfl rfl
        exact ⟨_, e, smallV_text hs hp⟩
      · rw [if_neg h3]
        have hi : ∀ n, inI64 n = true → SmallV 1 n ⟨#[]⟩ := fun n hn => ⟨by unfold okV; rw [hn]; rfl, by decide⟩
        split
        · exact ⟨_, rfl, hi _ hb⟩
        · exact ⟨_, rfl, hi _ (inI64_wrap _)⟩
theorem tameAs_ok (a b : Int) (c : ByteArray) (kd : Int) (nl : Bool) (hb : inI64 b = true) (k : Nat) (hk : 5 ≤ k) : ∃ p, tacticianref01_TameAs.f k a b c kd nl = some p ∧ SmallV p.1 p.2.1 p.2.2 := by
  unfold tacticianref01_TameAs.f
  split
  · split
    · exact tameAs_j0 _ a b c kd nl hb k hk
    · exact tameAs_j0 _ a b c kd nl hb k hk
  · exact tameAs_j0 _ a b c kd nl hb k hk
/-- a right row, of few and small values -/
def TameR (r : List V) : Prop := r.length = 3 ∧ ∀ v ∈ r, SmallV v.f0 v.f1 v.f2
theorem tame_l1 (cols : List S88) (hc : cols.length = 3) (raw : List (List V)) (n : Int) (hr : argRows raw) (i : Nat) (hi : i < raw.length) : ∀ (d j k : Nat) (out : List (List V)) (row : List V), j + d = 3 → row.length = j → (∀ v ∈ row, SmallV v.f0 v.f1 v.f2) → out.length ≤ 1000 → 5 ≤ k →
    ∃ row', TameR row' ∧ tacticianref02_TameRows.l1 (k + d + 1) cols raw n out (i : Int) row (j : Int) = tacticianref02_TameRows.l0 k cols raw n (out ++ [row']) (wrap64 ((i : Int) + 1)) := by
  intro d
  induction d with
  | zero =>
    intro j k out row hj hl hv ho hk
    refine ⟨row, ⟨by omega, hv⟩, ?_⟩
    rw [tacticianref02_TameRows.l1, if_neg (by omega), if_pos (by omega)]
  | succ d ih =>
    intro j k out row hj hl hv ho hk
    rw [show k + (d + 1) + 1 = (k + d + 1) + 1 by omega, tacticianref02_TameRows.l1, if_pos (by omega), if_pos (by omega), if_pos (by omega), rdL_at raw i hi]
    have hw : wrap64 ((j : Int) + 1) = ((j + 1 : Nat) : Int) := by rw [wrap_small (n := (j : Int) + 1) (by omega) (by omega)]; omega
    have step : ∀ p : Int × Int × ByteArray, SmallV p.1 p.2.1 p.2.2 → ∃ row', TameR row' ∧ (if row.length < 4398046511104 then tacticianref02_TameRows.l1 (k + d + 1) cols raw n out (i : Int) (row ++ [(⟨p.1, p.2.1, p.2.2⟩ : V)]) (wrap64 ((j : Int) + 1)) else none) = tacticianref02_TameRows.l0 k cols raw n (out ++ [row']) (wrap64 ((i : Int) + 1)) := by
      intro p hp
      rw [if_pos (by omega), hw]
      refine ih (j + 1) k out _ (by omega) (by rw [List.length_append, List.length_singleton, hl]) (fun v hm => ?_) ho hk
      rcases List.mem_append.1 hm with h | h
      · exact hv v h
      · rw [List.mem_singleton.1 h]; exact hp
    by_cases h0 : 0 < raw[i].length
    · have t1 : 0 ≤ Int.tmod (j : Int) (raw[i].length : Int) := Int.tmod_nonneg _ (by omega)
      have t2 : Int.tmod (j : Int) (raw[i].length : Int) < (raw[i].length : Int) := Int.tmod_lt_of_pos _ (by omega)
      rw [if_pos (by omega), if_neg (by omega), if_pos t1, if_pos t2, if_pos (by omega)]
      obtain ⟨p, e, hp⟩ := tameAs_ok (rd_T61 raw[i] (Int.tmod (j : Int) (raw[i].length : Int))).f0 (wrap64 (((rd_T61 raw[i] (Int.tmod (j : Int) (raw[i].length : Int))).f1) + (wrap64 (Int.tdiv (j : Int) (raw[i].length : Int))))) (rd_T61 raw[i] (Int.tmod (j : Int) (raw[i].length : Int))).f2 (rd_T88 cols (j : Int)).f0 (rd_T88 cols (j : Int)).f1 (inI64_wrap _) (k + d + 1) (by omega)
      rw [e, Option.bind_some]
      exact step p hp
    · rw [if_neg (by omega), if_pos (by omega)]
      obtain ⟨p, e, hp⟩ := tameAs_ok 0 0 ⟨#[]⟩ (rd_T88 cols (j : Int)).f0 (rd_T88 cols (j : Int)).f1 (by decide) (k + d + 1) (by omega)
      rw [e, Option.bind_some]
      exact step p hp
theorem tame_l0 (cols : List S88) (hc : cols.length = 3) (raw : List (List V)) (n : Nat) (hn : n ≤ 1000) (hr : argRows raw) : ∀ (d i k : Nat) (out : List (List V)), i + d = min raw.length n → out.length = i → (∀ r ∈ out, TameR r) → 10 * d + 10 ≤ k →
    ∃ L, tacticianref02_TameRows.l0 k cols raw (n : Int) out (i : Int) = some L ∧ L.length ≤ n ∧ ∀ r ∈ L, TameR r := by
  intro d
  induction d with
  | zero =>
    intro i k out hi hl ho hk
    obtain ⟨k, rfl⟩ : ∃ m, k = m + 2 := ⟨k - 2, by omega⟩
    refine ⟨out, ?_, by omega, ho⟩
    rw [tacticianref02_TameRows.l0]
    by_cases h : i < raw.length
    · rw [if_pos (by omega), decide_eq_false (by omega), tacticianref02_TameRows.j1, if_neg (by decide)]
    · rw [if_neg (by omega), tacticianref02_TameRows.j1, if_neg (by decide)]
  | succ d ih =>
    intro i k out hi hl ho hk
    obtain ⟨k, rfl⟩ : ∃ m, k = (m + 3 + 1) + 2 := ⟨k - 6, by omega⟩
    have h1 : i < raw.length := by omega
    obtain ⟨row, hrow, e⟩ := tame_l1 cols hc raw (n : Int) hr i h1 3 0 k out [] (by omega) rfl (fun v h => by cases h) (by omega) (by omega)
    rw [tacticianref02_TameRows.l0, if_pos (by omega), decide_eq_true (by omega), tacticianref02_TameRows.j1, if_pos rfl]
    obtain ⟨L, eL, h2, h3⟩ := ih (i + 1) k (out ++ [row]) (by omega) (by rw [List.length_append, List.length_singleton, hl]) (fun r hm => by
      rcases List.mem_append.1 hm with h | h
      · exact ho r h
      · rw [List.mem_singleton.1 h]; exact hrow) (by omega)
    refine ⟨L, ?_, h2, h3⟩
    refine e.trans ?_
    have hb := hr.2.1
    unfold maxLen at hb
    rw [wrap_small (n := (i : Int) + 1) (by omega) (by omega), show ((i : Int) + 1) = ((i + 1 : Nat) : Int) by omega]
    exact eL
theorem some_at (raw : List (List V)) (hr : argRows raw) (n : Nat) (hn : n ≤ 1000) (k : Nat) (hk : 10 * n + 10 ≤ k) : ∃ L, tacticianlaw02_some.f k raw (n : Int) = some L ∧ L.length ≤ n ∧ ∀ r ∈ L, TameR r := by
  obtain ⟨L, e, h1, h2⟩ := tame_l0 [(⟨1, true⟩ : S88), (⟨3, false⟩ : S88), (⟨2, true⟩ : S88)] rfl raw n hn hr (min raw.length n) 0 k [] (by omega) rfl (fun r h => by cases h) (by omega)
  refine ⟨L, ?_, h1, h2⟩
  unfold tacticianlaw02_some.f tacticianref02_TameRows.f
  rw [show (0 : Int) = ((0 : Nat) : Int) from rfl, e]
  rfl
/-- rows that nothing is wrong with -/
def GoodR (l : List (List V)) : Prop := l.length ≤ 100 ∧ ∀ r ∈ l, TameR r
theorem GoodR.ok {l : List (List V)} (h : GoodR l) : RowsOk 100 l := ⟨h.1, fun r hr => ⟨by have := (h.2 r hr).1; omega, fun v hv => by
  have := (h.2 r hr).2 v hv
  refine ⟨by have := this.2; omega, ?_⟩
  have h2 := this.1
  unfold okV at h2
  rw [Bool.and_eq_true] at h2
  exact h2.2⟩⟩
theorem GoodR.wrong {l : List (List V)} (h : GoodR l) : wrongR l = false := by
  unfold wrongR
  rw [List.any_eq_false]
  intro r hr
  rw [Bool.not_eq_true, List.any_eq_false]
  intro v hv
  have h2 := ((h.2 r hr).2 v hv).1
  unfold okV at h2
  rw [Bool.and_eq_true] at h2
  show ¬ (!isV v) = true
  unfold isV
  rw [h2.1]
  decide
theorem GoodR.large {l : List (List V)} (h : GoodR l) : largeR l = false := by
  unfold largeR
  rw [decide_eq_false (by have := h.1; omega), Bool.false_or, List.any_eq_false]
  intro r hr
  rw [decide_eq_true_eq]
  have := (h.2 r hr).1
  omega
theorem GoodR.small {l : List (List V)} (h : GoodR l) : smallE [l] = 0 := by
  unfold smallE
  simp only [List.any_cons, List.any_nil, Bool.or_false]
  rw [h.large, h.wrong]
  rfl
theorem GoodR.sub {l r : List (List V)} (h : GoodR l) (hs : ∀ x ∈ r, x ∈ l) (hl : r.length ≤ 100) : GoodR r := ⟨hl, fun x hx => h.2 x (hs x hx)⟩
end Go.Proofs.YtmhobbdedmjmnaaGreatDoor
end
section
/- Each function reached is shown to return what the plain function beside it computes, wherever that is defined (written by a program of ours for this seat). -/
namespace Go.Proofs.YtmhobbdedmjmnaaGreatDoor.Q
open Go.RowKit Go.Proofs.YtmhobbdedmjmnaaGreatDoorW.PrintWords Go.Proofs.YtmhobbdedmjmnaaGreatDoorW.PrintLast Go.Proofs.YtmhobbdedmjmnaaGreatDoorW.PrintMore
attribute [local go_sem] max2_int min2_int max_two min_two max_three min_three max_four min_four   -- for this text's walks alone
set_option linter.unusedVariables false
set_option linter.unusedSimpArgs false
/-! ### tacticianlaw02_awake: function 18 -/
section
/-- a number, as a value -/
abbrev iV (n : Int) : V := ⟨1, n, ⟨#[]⟩⟩
theorem below_any {w w' : World} (h : Below w.heap.size w w') : Below w.heap.size w w' := h
theorem rowK {W : World} {A : Option Addr} {n c : Nat} {x : List V} (h : Kd.C k61 W A n x) (hc : n ≤ c) : (Kd.slice 61 k61).K W x [.slice A n c] := by
  obtain rfl := h.1
  exact ⟨A, c, rfl, hc, h⟩
theorem rowKnil {W : World} : (Kd.slice 61 k61).K W [] [.slice none 0 0] := ⟨none, 0, rfl, Nat.le_refl _, Kd.C_nil _ _⟩
theorem rowLit1 (n : Int) (W : World) {g : Nat} (hg : g = W.heap.size) : Calls Tryz.prog 57 #[.slice (some ⟨g, 0, none⟩) 1 1] (W.alloc (.cells #[.int .i64 n] 2)) fun e w' => ∃ A c, e = .returned (.slice A 1 c) ∧ 1 ≤ c ∧ Kd.C k61 w' A 1 [iV n] ∧ Below W.heap.size W w' := by
  subst hg
  have hC : Kd.C (Kd.int .i64) (W.alloc (.cells #[.int .i64 n] 2)) (some ⟨W.heap.size, 0, none⟩) 1 [n] := C_lit rfl (blk_new W _) (Reps.one rfl (Reps.none _ _)) (show 1 ≤ 1000 by decide)
  refine (tacticianlaw02_row.calls 3 (some ⟨W.heap.size, 0, none⟩) 1 [n] [iV n] _ hC (Nat.le_refl _) (by simp [tacticianlaw02_row.f, tacticianlaw02_row.l0, tacticianref01_Int.f, rd, iV, wrap64])).mono ?_
  rintro e w' ⟨v, rfl, hv, hb⟩
  obtain ⟨A, c, rfl, h1, h2⟩ := Kd.R_reads hv
  exact ⟨A, c, rfl, h1, h2, below_step (below_alloc (Below.refl _ _) _) hb⟩
theorem rowLit2 (n m : Int) (W : World) {g : Nat} (hg : g = W.heap.size) : Calls Tryz.prog 57 #[.slice (some ⟨g, 0, none⟩) 2 2] (W.alloc (.cells #[.int .i64 n, .int .i64 m] 2)) fun e w' => ∃ A c, e = .returned (.slice A 2 c) ∧ 2 ≤ c ∧ Kd.C k61 w' A 2 [iV n, iV m] ∧ Below W.heap.size W w' := by
  subst hg
  have hC : Kd.C (Kd.int .i64) (W.alloc (.cells #[.int .i64 n, .int .i64 m] 2)) (some ⟨W.heap.size, 0, none⟩) 2 [n, m] := C_lit rfl (blk_new W _) (Reps.one rfl (Reps.one rfl (Reps.none _ _))) (show 2 ≤ 1000 by decide)
  refine (tacticianlaw02_row.calls 4 (some ⟨W.heap.size, 0, none⟩) 2 [n, m] [iV n, iV m] _ hC (Nat.le_refl _) (by simp [tacticianlaw02_row.f, tacticianlaw02_row.l0, tacticianref01_Int.f, rd, iV, wrap64])).mono ?_
  rintro e w' ⟨v, rfl, hv, hb⟩
  obtain ⟨A, c, rfl, h1, h2⟩ := Kd.R_reads hv
  exact ⟨A, c, rfl, h1, h2, below_step (below_alloc (Below.refl _ _) _) hb⟩
theorem keyLit {W : World} (g : Nat) (h : W.heap[g]? = some (.cells #[.int .i64 1, .bool true] 36 (0, 0))) : Kd.C k36 W (some ⟨g, 0, none⟩) 1 [(⟨1, true⟩ : KK)] :=
  ⟨rfl, by decide, fun _ => ⟨_, rfl, fun j p hj => by
    have hj0 : j = 0 := by
      have := (List.getElem?_eq_some_iff.1 hj).1
      simpa using this
    subst hj0
    have hp : (⟨1, true⟩ : KK) = p := by simpa using hj
    subst hp
    exact ⟨[.int .i64 1, .bool true], rfl, ⟨[.int .i64 1], [.bool true], rfl, rfl, rfl⟩, fun i u hu => by
      rw [show 0 * (k36).sz + i = i by rw [Nat.zero_mul, Nat.zero_add], add_at, Nat.zero_add, blk_cell h]
      simpa using hu⟩⟩⟩
theorem keyLit2 (W : World) (x : Obj) : Kd.C k36 ((W.alloc x).alloc (.cells #[.int .i64 1, .bool true] 36)) (some ⟨W.heap.size + 1, 0, none⟩) 1 [(⟨1, true⟩ : KK)] := by
  have h := blk_new (W.alloc x) (.cells #[.int .i64 1, .bool true] 36)
  rw [show (W.alloc x).heap.size = W.heap.size + 1 by simp] at h
  exact keyLit _ h
theorem canR_is {l r : List (List V)} (h1 : r.Perm l) (h2 : r.Pairwise fun a b => leOf cfR a b = true) : canR l = r := (cfR_tc.unique h1 h2).symm
theorem sortK_is (ks : List (Int × Bool)) {l r : List (List V)} (h1 : r.Perm l) (h2 : r.Pairwise fun a b => leOf (cfK ks) a b = true) : sortBy (cfK ks) l = r := ((cfK_tc ks).unique h1 h2).symm
theorem aw_HX : rows_Both.f [[iV 1], [iV 1], [iV 2]] [[iV 1], [iV 3]] true = some ([[iV 1]], 0) := by
  unfold rows_Both.f
  rw [if_pos (by decide +kernel), if_pos (by decide +kernel), if_pos rfl, canR_is (r := [[iV 1]]) (by decide +kernel) (by decide +kernel)]
theorem aw_HY : rows_Minus.f [[iV 1], [iV 1], [iV 2]] [[iV 1], [iV 3]] true = some ([[iV 1], [iV 2]], 0) := by
  unfold rows_Minus.f
  rw [if_pos (by decide +kernel), if_pos (by decide +kernel), if_pos rfl, canR_is (r := [[iV 1], [iV 2]]) (by decide +kernel) (by decide +kernel)]
theorem aw_one : oneR [[iV 1], [iV 1], [iV 2]] = [[iV 1], [iV 2]] := by
  unfold oneR
  rw [canR_is (r := [[iV 1], [iV 1], [iV 2]]) (by decide +kernel) (by decide +kernel)]
  decide +kernel
theorem aw_HZ : rows_Minus.f [[iV 1], [iV 1], [iV 2]] [[iV 1], [iV 3]] false = some ([[iV 2]], 0) := by
  unfold rows_Minus.f
  rw [if_pos (by decide +kernel), if_pos (by decide +kernel), if_neg (by decide), aw_one, canR_is (r := [[iV 2]]) (by decide +kernel) (by decide +kernel)]
theorem aw_HOO : rows_Ordered.f [[iV 1, iV 2], [iV 2, iV 1], [iV 1, iV 1]] [(⟨1, true⟩ : KK)] = some ([[iV 1, iV 2], [iV 1, iV 1], [iV 2, iV 1]], 0) := by
  unfold rows_Ordered.f
  rw [if_pos (by decide +kernel), if_pos (by decide +kernel), if_pos (by decide +kernel), sortK_is _ (r := [[iV 1, iV 2], [iV 1, iV 1], [iV 2, iV 1]]) (by decide +kernel) (by decide +kernel)]
theorem aw_S : rows_String.f [[iV 1, iV 2], []] = some (⟨#[40, 49, 44, 32, 50, 41, 10, 40, 41, 10]⟩, 0) := by
  unfold rows_String.f
  rw [if_pos (by decide +kernel), if_pos (by decide +kernel), if_pos (by decide +kernel)]
  decide +kernel
def tacticianlaw02_awake.f : Option Bool := some true
set_option maxRecDepth 100000 in
set_option maxHeartbeats 8000000 in
theorem tacticianlaw02_awake.calls (r : Bool) (w : World) (hL_ : Laid w) (h : tacticianlaw02_awake.f = some r) :
  Calls Tryz.prog 18 #[] w fun e w' => e = .returned (.bool r) ∧ Below w.heap.size w w' := by
 obtain rfl := Option.some.inj h
 clear h
 have HLD := Aside0.mk hL_
 clear hL_
 have hu36 := Tryz.underlying36
 have HB := Aside0.mk (Below.refl w.heap.size w)
 go_enter Tryz.func18, Tryz.ntmps18
 go_wp2_with fail
 refine (rowLit1 1 (w) (by first | rfl | (go_simp; done) | (go_simp; rfl))).mono ?_
 rintro e w1 ⟨A1, c1, rfl, hl1, hC1, hb1⟩
 have HT := Aside0.mk (below_step HB.out hb1)
 clear HB
 have HB := HT
 clear HT
 have HC1 := Aside0.mk hC1
 have HL1 := Aside0.mk hl1
 clear hC1 hl1 hb1
 go_wp2_with fail
 refine (rowLit1 1 (w1) (by first | rfl | (go_simp; done) | (go_simp; rfl))).mono ?_
 rintro e w2 ⟨A2, c2, rfl, hl2, hC2, hb2⟩
 have HC1_ := Aside0.mk (Kd.C_below HC1.out hb2)
 clear HC1
 have HC1 := HC1_
 clear HC1_
 have HT := Aside0.mk (below_step HB.out hb2)
 clear HB
 have HB := HT
 clear HT
 have HC2 := Aside0.mk hC2
 have HL2 := Aside0.mk hl2
 clear hC2 hl2 hb2
 go_wp2_with fail
 refine (rowLit1 2 (w2) (by first | rfl | (go_simp; done) | (go_simp; rfl))).mono ?_
 rintro e w3 ⟨A3, c3, rfl, hl3, hC3, hb3⟩
 have HC1_ := Aside0.mk (Kd.C_below HC1.out hb3)
 clear HC1
 have HC1 := HC1_
 clear HC1_
 have HC2_ := Aside0.mk (Kd.C_below HC2.out hb3)
 clear HC2
 have HC2 := HC2_
 clear HC2_
 have HT := Aside0.mk (below_step HB.out hb3)
 clear HB
 have HB := HT
 clear HT
 have HC3 := Aside0.mk hC3
 have HL3 := Aside0.mk hl3
 clear hC3 hl3 hb3
 have HC1_ := Aside0.mk (Kd.C_below HC1.out (below_alloc (Below.refl _ _) (.cells #[.slice A1 1 c1, .slice A2 1 c2, .slice A3 1 c3] 40)))
 clear HC1
 have HC1 := HC1_
 clear HC1_
 have HC2_ := Aside0.mk (Kd.C_below HC2.out (below_alloc (Below.refl _ _) (.cells #[.slice A1 1 c1, .slice A2 1 c2, .slice A3 1 c3] 40)))
 clear HC2
 have HC2 := HC2_
 clear HC2_
 have HC3_ := Aside0.mk (Kd.C_below HC3.out (below_alloc (Below.refl _ _) (.cells #[.slice A1 1 c1, .slice A2 1 c2, .slice A3 1 c3] 40)))
 clear HC3
 have HC3 := HC3_
 clear HC3_
 have HA : Aside0 (Kd.C (Kd.slice 61 k61) (w3.alloc (.cells #[.slice A1 1 c1, .slice A2 1 c2, .slice A3 1 c3] 40)) _ 3 [[iV 1], [iV 1], [iV 2]]) := ⟨C_lit rfl (blk_new _ _) (Reps.one (rowK HC1.out HL1.out) (Reps.one (rowK HC2.out HL2.out) (Reps.one (rowK HC3.out HL3.out) (Reps.none _ _)))) (show 3 ≤ 1000 by decide)⟩
 clear HC1 HL1
 clear HC2 HL2
 clear HC3 HL3
 have HT := Aside0.mk (below_alloc HB.out (.cells #[.slice A1 1 c1, .slice A2 1 c2, .slice A3 1 c3] 40))
 clear HB
 have HB := HT
 clear HT
 go_wp2_with fail
 refine (rowLit1 1 (w3.alloc (.cells #[.slice A1 1 c1, .slice A2 1 c2, .slice A3 1 c3] 40)) (by first | rfl | (go_simp; done) | (go_simp; rfl))).mono ?_
 rintro e w4 ⟨A4, c4, rfl, hl4, hC4, hb4⟩
 have HA_ := Aside0.mk (Kd.C_below HA.out hb4)
 clear HA
 have HA := HA_
 clear HA_
 have HT := Aside0.mk (below_step HB.out hb4)
 clear HB
 have HB := HT
 clear HT
 have HC4 := Aside0.mk hC4
 have HL4 := Aside0.mk hl4
 clear hC4 hl4 hb4
 go_wp2_with fail
 refine (rowLit1 3 (w4) (by first | rfl | (go_simp; done) | (go_simp; rfl))).mono ?_
 rintro e w5 ⟨A5, c5, rfl, hl5, hC5, hb5⟩
 have HA_ := Aside0.mk (Kd.C_below HA.out hb5)
 clear HA
 have HA := HA_
 clear HA_
 have HC4_ := Aside0.mk (Kd.C_below HC4.out hb5)
 clear HC4
 have HC4 := HC4_
 clear HC4_
 have HT := Aside0.mk (below_step HB.out hb5)
 clear HB
 have HB := HT
 clear HT
 have HC5 := Aside0.mk hC5
 have HL5 := Aside0.mk hl5
 clear hC5 hl5 hb5
 have HA_ := Aside0.mk (Kd.C_below HA.out (below_alloc (Below.refl _ _) (.cells #[.slice A4 1 c4, .slice A5 1 c5] 40)))
 clear HA
 have HA := HA_
 clear HA_
 have HC4_ := Aside0.mk (Kd.C_below HC4.out (below_alloc (Below.refl _ _) (.cells #[.slice A4 1 c4, .slice A5 1 c5] 40)))
 clear HC4
 have HC4 := HC4_
 clear HC4_
 have HC5_ := Aside0.mk (Kd.C_below HC5.out (below_alloc (Below.refl _ _) (.cells #[.slice A4 1 c4, .slice A5 1 c5] 40)))
 clear HC5
 have HC5 := HC5_
 clear HC5_
 have HBB : Aside0 (Kd.C (Kd.slice 61 k61) (w5.alloc (.cells #[.slice A4 1 c4, .slice A5 1 c5] 40)) _ 2 [[iV 1], [iV 3]]) := ⟨C_lit rfl (blk_new _ _) (Reps.one (rowK HC4.out HL4.out) (Reps.one (rowK HC5.out HL5.out) (Reps.none _ _))) (show 2 ≤ 1000 by decide)⟩
 clear HC4 HL4
 clear HC5 HL5
 have HT := Aside0.mk (below_alloc HB.out (.cells #[.slice A4 1 c4, .slice A5 1 c5] 40))
 clear HB
 have HB := HT
 clear HT
 go_wp2_with fail
 refine (rows_Both.calls _ _ [[iV 1], [iV 1], [iV 2]] _ _ [[iV 1], [iV 3]] true [[iV 1]] 0 _ HA.out (Nat.le_refl _) HBB.out (Nat.le_refl _) (HLD.out.below HB.out) (by exact aw_HX)).mono ?_
 rintro e w6 ⟨v6, rfl, hv6, hb6⟩
 obtain ⟨A6, c6, rfl, hl6, hC6⟩ := Kd.S_reads hv6
 have HA_ := Aside0.mk (Kd.C_below HA.out hb6)
 clear HA
 have HA := HA_
 clear HA_
 have HBB_ := Aside0.mk (Kd.C_below HBB.out hb6)
 clear HBB
 have HBB := HBB_
 clear HBB_
 have HT := Aside0.mk (below_step HB.out hb6)
 clear HB
 have HB := HT
 clear HT
 have HX := Aside0.mk hC6
 have LHX := Aside0.mk hl6
 clear hC6 hl6 hv6 hb6
 go_wp2_with fail
 refine (rows_Minus.calls _ _ [[iV 1], [iV 1], [iV 2]] _ _ [[iV 1], [iV 3]] true [[iV 1], [iV 2]] 0 _ HA.out (Nat.le_refl _) HBB.out (Nat.le_refl _) (HLD.out.below HB.out) (by exact aw_HY)).mono ?_
 rintro e w7 ⟨v7, rfl, hv7, hb7⟩
 obtain ⟨A7, c7, rfl, hl7, hC7⟩ := Kd.S_reads hv7
 have HA_ := Aside0.mk (Kd.C_below HA.out hb7)
 clear HA
 have HA := HA_
 clear HA_
 have HBB_ := Aside0.mk (Kd.C_below HBB.out hb7)
 clear HBB
 have HBB := HBB_
 clear HBB_
 have HX_ := Aside0.mk (Kd.C_below HX.out hb7)
 clear HX
 have HX := HX_
 clear HX_
 have HT := Aside0.mk (below_step HB.out hb7)
 clear HB
 have HB := HT
 clear HT
 have HY := Aside0.mk hC7
 have LHY := Aside0.mk hl7
 clear hC7 hl7 hv7 hb7
 go_wp2_with fail
 refine (rows_Minus.calls _ _ [[iV 1], [iV 1], [iV 2]] _ _ [[iV 1], [iV 3]] false [[iV 2]] 0 _ HA.out (Nat.le_refl _) HBB.out (Nat.le_refl _) (HLD.out.below HB.out) (by exact aw_HZ)).mono ?_
 rintro e w8 ⟨v8, rfl, hv8, hb8⟩
 obtain ⟨A8, c8, rfl, hl8, hC8⟩ := Kd.S_reads hv8
 have HA_ := Aside0.mk (Kd.C_below HA.out hb8)
 clear HA
 have HA := HA_
 clear HA_
 have HBB_ := Aside0.mk (Kd.C_below HBB.out hb8)
 clear HBB
 have HBB := HBB_
 clear HBB_
 have HX_ := Aside0.mk (Kd.C_below HX.out hb8)
 clear HX
 have HX := HX_
 clear HX_
 have HY_ := Aside0.mk (Kd.C_below HY.out hb8)
 clear HY
 have HY := HY_
 clear HY_
 have HT := Aside0.mk (below_step HB.out hb8)
 clear HB
 have HB := HT
 clear HT
 have HZ := Aside0.mk hC8
 have LHZ := Aside0.mk hl8
 clear hC8 hl8 hv8 hb8
 clear HA HBB
 go_wp2_with fail
 refine (rowLit2 1 2 (w8) (by first | rfl | (go_simp; done) | (go_simp; rfl))).mono ?_
 rintro e w9 ⟨A9, c9, rfl, hl9, hC9, hb9⟩
 have HX_ := Aside0.mk (Kd.C_below HX.out hb9)
 clear HX
 have HX := HX_
 clear HX_
 have HY_ := Aside0.mk (Kd.C_below HY.out hb9)
 clear HY
 have HY := HY_
 clear HY_
 have HZ_ := Aside0.mk (Kd.C_below HZ.out hb9)
 clear HZ
 have HZ := HZ_
 clear HZ_
 have HT := Aside0.mk (below_step HB.out hb9)
 clear HB
 have HB := HT
 clear HT
 have HC9 := Aside0.mk hC9
 have HL9 := Aside0.mk hl9
 clear hC9 hl9 hb9
 go_wp2_with fail
 refine (rowLit2 2 1 (w9) (by first | rfl | (go_simp; done) | (go_simp; rfl))).mono ?_
 rintro e w10 ⟨A10, c10, rfl, hl10, hC10, hb10⟩
 have HX_ := Aside0.mk (Kd.C_below HX.out hb10)
 clear HX
 have HX := HX_
 clear HX_
 have HY_ := Aside0.mk (Kd.C_below HY.out hb10)
 clear HY
 have HY := HY_
 clear HY_
 have HZ_ := Aside0.mk (Kd.C_below HZ.out hb10)
 clear HZ
 have HZ := HZ_
 clear HZ_
 have HC9_ := Aside0.mk (Kd.C_below HC9.out hb10)
 clear HC9
 have HC9 := HC9_
 clear HC9_
 have HT := Aside0.mk (below_step HB.out hb10)
 clear HB
 have HB := HT
 clear HT
 have HC10 := Aside0.mk hC10
 have HL10 := Aside0.mk hl10
 clear hC10 hl10 hb10
 go_wp2_with fail
 refine (rowLit2 1 1 (w10) (by first | rfl | (go_simp; done) | (go_simp; rfl))).mono ?_
 rintro e w11 ⟨A11, c11, rfl, hl11, hC11, hb11⟩
 have HX_ := Aside0.mk (Kd.C_below HX.out hb11)
 clear HX
 have HX := HX_
 clear HX_
 have HY_ := Aside0.mk (Kd.C_below HY.out hb11)
 clear HY
 have HY := HY_
 clear HY_
 have HZ_ := Aside0.mk (Kd.C_below HZ.out hb11)
 clear HZ
 have HZ := HZ_
 clear HZ_
 have HC9_ := Aside0.mk (Kd.C_below HC9.out hb11)
 clear HC9
 have HC9 := HC9_
 clear HC9_
 have HC10_ := Aside0.mk (Kd.C_below HC10.out hb11)
 clear HC10
 have HC10 := HC10_
 clear HC10_
 have HT := Aside0.mk (below_step HB.out hb11)
 clear HB
 have HB := HT
 clear HT
 have HC11 := Aside0.mk hC11
 have HL11 := Aside0.mk hl11
 clear hC11 hl11 hb11
 have HX_ := Aside0.mk (Kd.C_below HX.out (below_alloc (Below.refl _ _) (.cells #[.slice A9 2 c9, .slice A10 2 c10, .slice A11 2 c11] 40)))
 clear HX
 have HX := HX_
 clear HX_
 have HY_ := Aside0.mk (Kd.C_below HY.out (below_alloc (Below.refl _ _) (.cells #[.slice A9 2 c9, .slice A10 2 c10, .slice A11 2 c11] 40)))
 clear HY
 have HY := HY_
 clear HY_
 have HZ_ := Aside0.mk (Kd.C_below HZ.out (below_alloc (Below.refl _ _) (.cells #[.slice A9 2 c9, .slice A10 2 c10, .slice A11 2 c11] 40)))
 clear HZ
 have HZ := HZ_
 clear HZ_
 have HC9_ := Aside0.mk (Kd.C_below HC9.out (below_alloc (Below.refl _ _) (.cells #[.slice A9 2 c9, .slice A10 2 c10, .slice A11 2 c11] 40)))
 clear HC9
 have HC9 := HC9_
 clear HC9_
 have HC10_ := Aside0.mk (Kd.C_below HC10.out (below_alloc (Below.refl _ _) (.cells #[.slice A9 2 c9, .slice A10 2 c10, .slice A11 2 c11] 40)))
 clear HC10
 have HC10 := HC10_
 clear HC10_
 have HC11_ := Aside0.mk (Kd.C_below HC11.out (below_alloc (Below.refl _ _) (.cells #[.slice A9 2 c9, .slice A10 2 c10, .slice A11 2 c11] 40)))
 clear HC11
 have HC11 := HC11_
 clear HC11_
 have HO0 : Aside0 (Kd.C (Kd.slice 61 k61) (w11.alloc (.cells #[.slice A9 2 c9, .slice A10 2 c10, .slice A11 2 c11] 40)) _ 3 [[iV 1, iV 2], [iV 2, iV 1], [iV 1, iV 1]]) := ⟨C_lit rfl (blk_new _ _) (Reps.one (rowK HC9.out HL9.out) (Reps.one (rowK HC10.out HL10.out) (Reps.one (rowK HC11.out HL11.out) (Reps.none _ _)))) (show 3 ≤ 1000 by decide)⟩
 clear HC9 HL9
 clear HC10 HL10
 clear HC11 HL11
 have HT := Aside0.mk (below_alloc HB.out (.cells #[.slice A9 2 c9, .slice A10 2 c10, .slice A11 2 c11] 40))
 clear HB
 have HB := HT
 clear HT
 go_wp2_with fail
 have HX_ := Aside0.mk (Kd.C_below HX.out (below_alloc (Below.refl _ _) (.cells #[.int .i64 1, .bool true] 36)))
 clear HX
 have HX := HX_
 clear HX_
 have HY_ := Aside0.mk (Kd.C_below HY.out (below_alloc (Below.refl _ _) (.cells #[.int .i64 1, .bool true] 36)))
 clear HY
 have HY := HY_
 clear HY_
 have HZ_ := Aside0.mk (Kd.C_below HZ.out (below_alloc (Below.refl _ _) (.cells #[.int .i64 1, .bool true] 36)))
 clear HZ
 have HZ := HZ_
 clear HZ_
 have HO0_ := Aside0.mk (Kd.C_below HO0.out (below_alloc (Below.refl _ _) (.cells #[.int .i64 1, .bool true] 36)))
 clear HO0
 have HO0 := HO0_
 clear HO0_
 have HT := Aside0.mk (below_alloc HB.out (.cells #[.int .i64 1, .bool true] 36))
 clear HB
 have HB := HT
 clear HT
 have HKY : Aside0 (Kd.C k36 ((w11.alloc (.cells #[.slice A9 2 c9, .slice A10 2 c10, .slice A11 2 c11] 40)).alloc (.cells #[.int .i64 1, .bool true] 36)) (some ⟨w11.heap.size + 1, 0, none⟩) 1 [(⟨1, true⟩ : KK)]) := ⟨keyLit2 _ _⟩
 refine (rows_Ordered.calls _ _ [[iV 1, iV 2], [iV 2, iV 1], [iV 1, iV 1]] _ _ [(⟨1, true⟩ : KK)] [[iV 1, iV 2], [iV 1, iV 1], [iV 2, iV 1]] 0 _ HO0.out (Nat.le_refl _) HKY.out (Nat.le_refl _) (by exact aw_HOO)).mono ?_
 rintro e w12 ⟨v12, rfl, hv12, hb12⟩
 obtain ⟨A12, c12, rfl, hl12, hC12⟩ := Kd.S_reads hv12
 clear HO0 HKY
 have HX_ := Aside0.mk (Kd.C_below HX.out hb12)
 clear HX
 have HX := HX_
 clear HX_
 have HY_ := Aside0.mk (Kd.C_below HY.out hb12)
 clear HY
 have HY := HY_
 clear HY_
 have HZ_ := Aside0.mk (Kd.C_below HZ.out hb12)
 clear HZ
 have HZ := HZ_
 clear HZ_
 have HT := Aside0.mk (below_step HB.out hb12)
 clear HB
 have HB := HT
 clear HT
 have HOO := Aside0.mk hC12
 have LHOO := Aside0.mk hl12
 clear hC12 hl12 hv12 hb12
 go_wp2_with fail
 refine (rowLit2 1 2 (w12) (by first | rfl | (go_simp; done) | (go_simp; rfl))).mono ?_
 rintro e w13 ⟨A13, c13, rfl, hl13, hC13, hb13⟩
 have HX_ := Aside0.mk (Kd.C_below HX.out hb13)
 clear HX
 have HX := HX_
 clear HX_
 have HY_ := Aside0.mk (Kd.C_below HY.out hb13)
 clear HY
 have HY := HY_
 clear HY_
 have HZ_ := Aside0.mk (Kd.C_below HZ.out hb13)
 clear HZ
 have HZ := HZ_
 clear HZ_
 have HOO_ := Aside0.mk (Kd.C_below HOO.out hb13)
 clear HOO
 have HOO := HOO_
 clear HOO_
 have HT := Aside0.mk (below_step HB.out hb13)
 clear HB
 have HB := HT
 clear HT
 have HC13 := Aside0.mk hC13
 have HL13 := Aside0.mk hl13
 clear hC13 hl13 hb13
 have HX_ := Aside0.mk (Kd.C_below HX.out (below_alloc (Below.refl _ _) (.cells #[.slice A13 2 c13, .slice none 0 0] 40)))
 clear HX
 have HX := HX_
 clear HX_
 have HY_ := Aside0.mk (Kd.C_below HY.out (below_alloc (Below.refl _ _) (.cells #[.slice A13 2 c13, .slice none 0 0] 40)))
 clear HY
 have HY := HY_
 clear HY_
 have HZ_ := Aside0.mk (Kd.C_below HZ.out (below_alloc (Below.refl _ _) (.cells #[.slice A13 2 c13, .slice none 0 0] 40)))
 clear HZ
 have HZ := HZ_
 clear HZ_
 have HOO_ := Aside0.mk (Kd.C_below HOO.out (below_alloc (Below.refl _ _) (.cells #[.slice A13 2 c13, .slice none 0 0] 40)))
 clear HOO
 have HOO := HOO_
 clear HOO_
 have HC13_ := Aside0.mk (Kd.C_below HC13.out (below_alloc (Below.refl _ _) (.cells #[.slice A13 2 c13, .slice none 0 0] 40)))
 clear HC13
 have HC13 := HC13_
 clear HC13_
 have HS0 : Aside0 (Kd.C (Kd.slice 61 k61) (w13.alloc (.cells #[.slice A13 2 c13, .slice none 0 0] 40)) _ 2 [[iV 1, iV 2], []]) := ⟨C_lit rfl (blk_new _ _) (Reps.one (rowK HC13.out HL13.out) (Reps.one rowKnil (Reps.none _ _))) (show 2 ≤ 1000 by decide)⟩
 clear HC13 HL13
 have HT := Aside0.mk (below_alloc HB.out (.cells #[.slice A13 2 c13, .slice none 0 0] 40))
 clear HB
 have HB := HT
 clear HT
 go_wp2_with fail
 refine (rows_String.calls _ _ [[iV 1, iV 2], []] ⟨#[40, 49, 44, 32, 50, 41, 10, 40, 41, 10]⟩ 0 _ HS0.out (Nat.le_refl _) (HLD.out.below HB.out) (by exact aw_S)).mono ?_
 rintro e w14 ⟨rfl, hb14⟩
 clear HS0
 have HX_ := Aside0.mk (Kd.C_below HX.out hb14)
 clear HX
 have HX := HX_
 clear HX_
 have HY_ := Aside0.mk (Kd.C_below HY.out hb14)
 clear HY
 have HY := HY_
 clear HY_
 have HZ_ := Aside0.mk (Kd.C_below HZ.out hb14)
 clear HZ
 have HZ := HZ_
 clear HZ_
 have HOO_ := Aside0.mk (Kd.C_below HOO.out hb14)
 clear HOO
 have HOO := HOO_
 clear HOO_
 have HT := Aside0.mk (below_step HB.out hb14)
 clear HB hb14
 have HB := HT
 clear HT
 go_wp2_with fail
 refine (rowLit1 1 (w14) (by first | rfl | (go_simp; done) | (go_simp; rfl))).mono ?_
 rintro e w15 ⟨A15, c15, rfl, hl15, hC15, hb15⟩
 have HX_ := Aside0.mk (Kd.C_below HX.out hb15)
 clear HX
 have HX := HX_
 clear HX_
 have HY_ := Aside0.mk (Kd.C_below HY.out hb15)
 clear HY
 have HY := HY_
 clear HY_
 have HZ_ := Aside0.mk (Kd.C_below HZ.out hb15)
 clear HZ
 have HZ := HZ_
 clear HZ_
 have HOO_ := Aside0.mk (Kd.C_below HOO.out hb15)
 clear HOO
 have HOO := HOO_
 clear HOO_
 have HT := Aside0.mk (below_step HB.out hb15)
 clear HB
 have HB := HT
 clear HT
 have HC15 := Aside0.mk hC15
 have HL15 := Aside0.mk hl15
 clear hC15 hl15 hb15
 have HX_ := Aside0.mk (Kd.C_below HX.out (below_alloc (Below.refl _ _) (.cells #[.slice A15 1 c15] 40)))
 clear HX
 have HX := HX_
 clear HX_
 have HY_ := Aside0.mk (Kd.C_below HY.out (below_alloc (Below.refl _ _) (.cells #[.slice A15 1 c15] 40)))
 clear HY
 have HY := HY_
 clear HY_
 have HZ_ := Aside0.mk (Kd.C_below HZ.out (below_alloc (Below.refl _ _) (.cells #[.slice A15 1 c15] 40)))
 clear HZ
 have HZ := HZ_
 clear HZ_
 have HOO_ := Aside0.mk (Kd.C_below HOO.out (below_alloc (Below.refl _ _) (.cells #[.slice A15 1 c15] 40)))
 clear HOO
 have HOO := HOO_
 clear HOO_
 have HC15_ := Aside0.mk (Kd.C_below HC15.out (below_alloc (Below.refl _ _) (.cells #[.slice A15 1 c15] 40)))
 clear HC15
 have HC15 := HC15_
 clear HC15_
 have HQ : Aside0 (Kd.C (Kd.slice 61 k61) (w15.alloc (.cells #[.slice A15 1 c15] 40)) _ 1 [[iV 1]]) := ⟨C_lit rfl (blk_new _ _) (Reps.one (rowK HC15.out HL15.out) (Reps.none _ _)) (show 1 ≤ 1000 by decide)⟩
 clear HC15 HL15
 have HT := Aside0.mk (below_alloc HB.out (.cells #[.slice A15 1 c15] 40))
 clear HB
 have HB := HT
 clear HT
 go_wp2_with fail
 refine (tacticianref02_Equal.calls 20 _ _ [[iV 1]] _ _ [[iV 1]] true _ HX.out LHX.out HQ.out (Nat.le_refl _) (by decide +kernel)).mono ?_
 rintro e w16 ⟨rfl, hb16⟩
 replace hb16 := below_any hb16
 clear HQ
 have HX_ := Aside0.mk (Kd.C_below HX.out hb16)
 clear HX
 have HX := HX_
 clear HX_
 have HY_ := Aside0.mk (Kd.C_below HY.out hb16)
 clear HY
 have HY := HY_
 clear HY_
 have HZ_ := Aside0.mk (Kd.C_below HZ.out hb16)
 clear HZ
 have HZ := HZ_
 clear HZ_
 have HOO_ := Aside0.mk (Kd.C_below HOO.out hb16)
 clear HOO
 have HOO := HOO_
 clear HOO_
 have HT := Aside0.mk (below_step HB.out hb16)
 clear HB hb16
 have HB := HT
 clear HT
 clear HX LHX
 go_wp2_with fail
 refine (rowLit1 1 (w16) (by first | rfl | (go_simp; done) | (go_simp; rfl))).mono ?_
 rintro e w17 ⟨A17, c17, rfl, hl17, hC17, hb17⟩
 have HY_ := Aside0.mk (Kd.C_below HY.out hb17)
 clear HY
 have HY := HY_
 clear HY_
 have HZ_ := Aside0.mk (Kd.C_below HZ.out hb17)
 clear HZ
 have HZ := HZ_
 clear HZ_
 have HOO_ := Aside0.mk (Kd.C_below HOO.out hb17)
 clear HOO
 have HOO := HOO_
 clear HOO_
 have HT := Aside0.mk (below_step HB.out hb17)
 clear HB
 have HB := HT
 clear HT
 have HC17 := Aside0.mk hC17
 have HL17 := Aside0.mk hl17
 clear hC17 hl17 hb17
 go_wp2_with fail
 refine (rowLit1 2 (w17) (by first | rfl | (go_simp; done) | (go_simp; rfl))).mono ?_
 rintro e w18 ⟨A18, c18, rfl, hl18, hC18, hb18⟩
 have HY_ := Aside0.mk (Kd.C_below HY.out hb18)
 clear HY
 have HY := HY_
 clear HY_
 have HZ_ := Aside0.mk (Kd.C_below HZ.out hb18)
 clear HZ
 have HZ := HZ_
 clear HZ_
 have HOO_ := Aside0.mk (Kd.C_below HOO.out hb18)
 clear HOO
 have HOO := HOO_
 clear HOO_
 have HC17_ := Aside0.mk (Kd.C_below HC17.out hb18)
 clear HC17
 have HC17 := HC17_
 clear HC17_
 have HT := Aside0.mk (below_step HB.out hb18)
 clear HB
 have HB := HT
 clear HT
 have HC18 := Aside0.mk hC18
 have HL18 := Aside0.mk hl18
 clear hC18 hl18 hb18
 have HY_ := Aside0.mk (Kd.C_below HY.out (below_alloc (Below.refl _ _) (.cells #[.slice A17 1 c17, .slice A18 1 c18] 40)))
 clear HY
 have HY := HY_
 clear HY_
 have HZ_ := Aside0.mk (Kd.C_below HZ.out (below_alloc (Below.refl _ _) (.cells #[.slice A17 1 c17, .slice A18 1 c18] 40)))
 clear HZ
 have HZ := HZ_
 clear HZ_
 have HOO_ := Aside0.mk (Kd.C_below HOO.out (below_alloc (Below.refl _ _) (.cells #[.slice A17 1 c17, .slice A18 1 c18] 40)))
 clear HOO
 have HOO := HOO_
 clear HOO_
 have HC17_ := Aside0.mk (Kd.C_below HC17.out (below_alloc (Below.refl _ _) (.cells #[.slice A17 1 c17, .slice A18 1 c18] 40)))
 clear HC17
 have HC17 := HC17_
 clear HC17_
 have HC18_ := Aside0.mk (Kd.C_below HC18.out (below_alloc (Below.refl _ _) (.cells #[.slice A17 1 c17, .slice A18 1 c18] 40)))
 clear HC18
 have HC18 := HC18_
 clear HC18_
 have HQ : Aside0 (Kd.C (Kd.slice 61 k61) (w18.alloc (.cells #[.slice A17 1 c17, .slice A18 1 c18] 40)) _ 2 [[iV 1], [iV 2]]) := ⟨C_lit rfl (blk_new _ _) (Reps.one (rowK HC17.out HL17.out) (Reps.one (rowK HC18.out HL18.out) (Reps.none _ _))) (show 2 ≤ 1000 by decide)⟩
 clear HC17 HL17
 clear HC18 HL18
 have HT := Aside0.mk (below_alloc HB.out (.cells #[.slice A17 1 c17, .slice A18 1 c18] 40))
 clear HB
 have HB := HT
 clear HT
 go_wp2_with fail
 refine (tacticianref02_Equal.calls 20 _ _ [[iV 1], [iV 2]] _ _ [[iV 1], [iV 2]] true _ HY.out LHY.out HQ.out (Nat.le_refl _) (by decide +kernel)).mono ?_
 rintro e w19 ⟨rfl, hb19⟩
 replace hb19 := below_any hb19
 clear HQ
 have HY_ := Aside0.mk (Kd.C_below HY.out hb19)
 clear HY
 have HY := HY_
 clear HY_
 have HZ_ := Aside0.mk (Kd.C_below HZ.out hb19)
 clear HZ
 have HZ := HZ_
 clear HZ_
 have HOO_ := Aside0.mk (Kd.C_below HOO.out hb19)
 clear HOO
 have HOO := HOO_
 clear HOO_
 have HT := Aside0.mk (below_step HB.out hb19)
 clear HB hb19
 have HB := HT
 clear HT
 clear HY LHY
 go_wp2_with fail
 refine (rowLit1 2 (w19) (by first | rfl | (go_simp; done) | (go_simp; rfl))).mono ?_
 rintro e w20 ⟨A20, c20, rfl, hl20, hC20, hb20⟩
 have HZ_ := Aside0.mk (Kd.C_below HZ.out hb20)
 clear HZ
 have HZ := HZ_
 clear HZ_
 have HOO_ := Aside0.mk (Kd.C_below HOO.out hb20)
 clear HOO
 have HOO := HOO_
 clear HOO_
 have HT := Aside0.mk (below_step HB.out hb20)
 clear HB
 have HB := HT
 clear HT
 have HC20 := Aside0.mk hC20
 have HL20 := Aside0.mk hl20
 clear hC20 hl20 hb20
 have HZ_ := Aside0.mk (Kd.C_below HZ.out (below_alloc (Below.refl _ _) (.cells #[.slice A20 1 c20] 40)))
 clear HZ
 have HZ := HZ_
 clear HZ_
 have HOO_ := Aside0.mk (Kd.C_below HOO.out (below_alloc (Below.refl _ _) (.cells #[.slice A20 1 c20] 40)))
 clear HOO
 have HOO := HOO_
 clear HOO_
 have HC20_ := Aside0.mk (Kd.C_below HC20.out (below_alloc (Below.refl _ _) (.cells #[.slice A20 1 c20] 40)))
 clear HC20
 have HC20 := HC20_
 clear HC20_
 have HQ : Aside0 (Kd.C (Kd.slice 61 k61) (w20.alloc (.cells #[.slice A20 1 c20] 40)) _ 1 [[iV 2]]) := ⟨C_lit rfl (blk_new _ _) (Reps.one (rowK HC20.out HL20.out) (Reps.none _ _)) (show 1 ≤ 1000 by decide)⟩
 clear HC20 HL20
 have HT := Aside0.mk (below_alloc HB.out (.cells #[.slice A20 1 c20] 40))
 clear HB
 have HB := HT
 clear HT
 go_wp2_with fail
 refine (tacticianref02_Equal.calls 20 _ _ [[iV 2]] _ _ [[iV 2]] true _ HZ.out LHZ.out HQ.out (Nat.le_refl _) (by decide +kernel)).mono ?_
 rintro e w21 ⟨rfl, hb21⟩
 replace hb21 := below_any hb21
 clear HQ
 have HZ_ := Aside0.mk (Kd.C_below HZ.out hb21)
 clear HZ
 have HZ := HZ_
 clear HZ_
 have HOO_ := Aside0.mk (Kd.C_below HOO.out hb21)
 clear HOO
 have HOO := HOO_
 clear HOO_
 have HT := Aside0.mk (below_step HB.out hb21)
 clear HB hb21
 have HB := HT
 clear HT
 clear HZ LHZ
 go_wp2_with fail
 refine (rowLit2 1 2 (w21) (by first | rfl | (go_simp; done) | (go_simp; rfl))).mono ?_
 rintro e w22 ⟨A22, c22, rfl, hl22, hC22, hb22⟩
 have HOO_ := Aside0.mk (Kd.C_below HOO.out hb22)
 clear HOO
 have HOO := HOO_
 clear HOO_
 have HT := Aside0.mk (below_step HB.out hb22)
 clear HB
 have HB := HT
 clear HT
 have HC22 := Aside0.mk hC22
 have HL22 := Aside0.mk hl22
 clear hC22 hl22 hb22
 go_wp2_with fail
 refine (rowLit2 1 1 (w22) (by first | rfl | (go_simp; done) | (go_simp; rfl))).mono ?_
 rintro e w23 ⟨A23, c23, rfl, hl23, hC23, hb23⟩
 have HOO_ := Aside0.mk (Kd.C_below HOO.out hb23)
 clear HOO
 have HOO := HOO_
 clear HOO_
 have HC22_ := Aside0.mk (Kd.C_below HC22.out hb23)
 clear HC22
 have HC22 := HC22_
 clear HC22_
 have HT := Aside0.mk (below_step HB.out hb23)
 clear HB
 have HB := HT
 clear HT
 have HC23 := Aside0.mk hC23
 have HL23 := Aside0.mk hl23
 clear hC23 hl23 hb23
 go_wp2_with fail
 refine (rowLit2 2 1 (w23) (by first | rfl | (go_simp; done) | (go_simp; rfl))).mono ?_
 rintro e w24 ⟨A24, c24, rfl, hl24, hC24, hb24⟩
 have HOO_ := Aside0.mk (Kd.C_below HOO.out hb24)
 clear HOO
 have HOO := HOO_
 clear HOO_
 have HC22_ := Aside0.mk (Kd.C_below HC22.out hb24)
 clear HC22
 have HC22 := HC22_
 clear HC22_
 have HC23_ := Aside0.mk (Kd.C_below HC23.out hb24)
 clear HC23
 have HC23 := HC23_
 clear HC23_
 have HT := Aside0.mk (below_step HB.out hb24)
 clear HB
 have HB := HT
 clear HT
 have HC24 := Aside0.mk hC24
 have HL24 := Aside0.mk hl24
 clear hC24 hl24 hb24
 have HOO_ := Aside0.mk (Kd.C_below HOO.out (below_alloc (Below.refl _ _) (.cells #[.slice A22 2 c22, .slice A23 2 c23, .slice A24 2 c24] 40)))
 clear HOO
 have HOO := HOO_
 clear HOO_
 have HC22_ := Aside0.mk (Kd.C_below HC22.out (below_alloc (Below.refl _ _) (.cells #[.slice A22 2 c22, .slice A23 2 c23, .slice A24 2 c24] 40)))
 clear HC22
 have HC22 := HC22_
 clear HC22_
 have HC23_ := Aside0.mk (Kd.C_below HC23.out (below_alloc (Below.refl _ _) (.cells #[.slice A22 2 c22, .slice A23 2 c23, .slice A24 2 c24] 40)))
 clear HC23
 have HC23 := HC23_
 clear HC23_
 have HC24_ := Aside0.mk (Kd.C_below HC24.out (below_alloc (Below.refl _ _) (.cells #[.slice A22 2 c22, .slice A23 2 c23, .slice A24 2 c24] 40)))
 clear HC24
 have HC24 := HC24_
 clear HC24_
 have HQ : Aside0 (Kd.C (Kd.slice 61 k61) (w24.alloc (.cells #[.slice A22 2 c22, .slice A23 2 c23, .slice A24 2 c24] 40)) _ 3 [[iV 1, iV 2], [iV 1, iV 1], [iV 2, iV 1]]) := ⟨C_lit rfl (blk_new _ _) (Reps.one (rowK HC22.out HL22.out) (Reps.one (rowK HC23.out HL23.out) (Reps.one (rowK HC24.out HL24.out) (Reps.none _ _)))) (show 3 ≤ 1000 by decide)⟩
 clear HC22 HL22
 clear HC23 HL23
 clear HC24 HL24
 have HT := Aside0.mk (below_alloc HB.out (.cells #[.slice A22 2 c22, .slice A23 2 c23, .slice A24 2 c24] 40))
 clear HB
 have HB := HT
 clear HT
 go_wp2_with fail
 refine (tacticianref02_Equal.calls 20 _ _ [[iV 1, iV 2], [iV 1, iV 1], [iV 2, iV 1]] _ _ [[iV 1, iV 2], [iV 1, iV 1], [iV 2, iV 1]] true _ HOO.out LHOO.out HQ.out (Nat.le_refl _) (by decide +kernel)).mono ?_
 rintro e w25 ⟨rfl, hb25⟩
 replace hb25 := below_any hb25
 clear HQ
 have HOO_ := Aside0.mk (Kd.C_below HOO.out hb25)
 clear HOO
 have HOO := HOO_
 clear HOO_
 have HT := Aside0.mk (below_step HB.out hb25)
 clear HB hb25
 have HB := HT
 clear HT
 clear HOO LHOO
 go_wp2
 go_ret
 exact ⟨rfl, HB.out⟩
end
end Go.Proofs.YtmhobbdedmjmnaaGreatDoor.Q
end
section
/- Each function reached is shown to return what the plain function beside it computes, wherever that is defined (written by a program of ours for this seat). -/
namespace Go.Proofs.YtmhobbdedmjmnaaGreatDoor.Q
open Go.RowKit Go.Proofs.YtmhobbdedmjmnaaGreatDoorW.PrintWords Go.Proofs.YtmhobbdedmjmnaaGreatDoorW.PrintLast Go.Proofs.YtmhobbdedmjmnaaGreatDoorW.PrintMore
attribute [local go_sem] max2_int min2_int max_two min_two max_three min_three max_four min_four   -- for this text's walks alone
set_option linter.unusedVariables false
set_option linter.unusedSimpArgs false
def tacticianlaw02_RowsBack.j0 : Nat → ByteArray → Bool → Option (Bool)
  | 0, _, _ => none
  | k + 1, x1, x38 => if x38 = true then (some false) else (if 0 ≤ (mn (x1.size : Int) 2000) then (if (mn (x1.size : Int) 2000) ≤ (x1.size : Int) then ((rows_Parse.f (x1.extract 0 ((mn (x1.size : Int) 2000) : Int).toNat)).bind fun bt780 => (if bt780.2 = 0 then ((rows_String.f bt780.1).bind fun bt784 => (if bt784.2 = 0 then (if bt784.1.toList = (x1.extract 0 ((mn (x1.size : Int) 2000) : Int).toNat).toList then ((tacticianlaw02_awake.f).bind fun t786 => (some t786)) else (some false)) else (some false))) else (if (bt780.1.length : Int) = 0 then ((tacticianlaw02_awake.f).bind fun t787 => (some t787)) else (some false)))) else (none)) else (none))
def tacticianlaw02_RowsBack.f (k : Nat) (l0 : List (List (S61))) (a1 : ByteArray) : Option (Bool) := (tacticianlaw02_some.f k l0 20).bind fun t770 => ((rows_String.f t770).bind fun bt773 => ((rows_Parse.f bt773.1).bind fun bt775 => (if bt773.2 = 0 then (if bt775.2 = 0 then ((tacticianref02_Equal.f k bt775.1 t770).bind fun t779 => (tacticianlaw02_RowsBack.j0 k a1 (!t779))) else (tacticianlaw02_RowsBack.j0 k a1 true)) else (tacticianlaw02_RowsBack.j0 k a1 true))))
set_option maxHeartbeats 8000000 in
set_option maxRecDepth 100000 in
theorem tacticianlaw02_RowsBack.calls (k : Nat) (A0 : Option Addr) (c0 : Nat) (l0 : List (List (S61))) (a1 : ByteArray) (r : Bool) (w : World) (hr0 : Kd.C (Kd.slice 61 k61) w A0 l0.length l0) (hc0 : l0.length ≤ c0) (hL_ : LaidE w) (hr_ : Aside0 (r = true)) (h : tacticianlaw02_RowsBack.f k l0 a1 = some r) :
  Calls Tryz.prog 13 #[.slice A0 l0.length c0, .string a1] w fun e w' => e = .returned (.bool r) ∧ Below w.heap.size w w' := by
 have HLD := Aside0.mk hL_
 clear hL_
 have HR0 := Aside0.mk hr0
 have HC0 := Aside0.mk hc0
 clear hr0 hc0
 have HB := Aside0.mk (Below.refl w.heap.size w)
 have H : ((tacticianlaw02_some.f k l0 20).bind fun t770 => ((rows_String.f t770).bind fun bt773 => ((rows_Parse.f bt773.1).bind fun bt775 => (if bt773.2 = 0 then (if bt775.2 = 0 then ((tacticianref02_Equal.f k bt775.1 t770).bind fun t779 => (tacticianlaw02_RowsBack.j0 k a1 (!t779))) else (tacticianlaw02_RowsBack.j0 k a1 true)) else (tacticianlaw02_RowsBack.j0 k a1 true))))) = some r := h
 clear h
 replace H := Option.bind_eq_some_iff.mp H
 obtain ⟨t770, A30, H⟩ := H
 replace H : ((rows_String.f t770).bind fun bt773 => ((rows_Parse.f bt773.1).bind fun bt775 => (if bt773.2 = 0 then (if bt775.2 = 0 then ((tacticianref02_Equal.f k bt775.1 t770).bind fun t779 => (tacticianlaw02_RowsBack.j0 k a1 (!t779))) else (tacticianlaw02_RowsBack.j0 k a1 true)) else (tacticianlaw02_RowsBack.j0 k a1 true)))) = some r := H
 have A3 := Aside0.mk A30
 clear A30
 replace H := Option.bind_eq_some_iff.mp H
 obtain ⟨⟨t773, t774⟩, A40, H⟩ := H
 replace H : ((rows_Parse.f t773).bind fun bt775 => (if t774 = 0 then (if bt775.2 = 0 then ((tacticianref02_Equal.f k bt775.1 t770).bind fun t779 => (tacticianlaw02_RowsBack.j0 k a1 (!t779))) else (tacticianlaw02_RowsBack.j0 k a1 true)) else (tacticianlaw02_RowsBack.j0 k a1 true))) = some r := H
 have A4 := Aside0.mk A40
 clear A40
 replace H := Option.bind_eq_some_iff.mp H
 obtain ⟨⟨t775, t776⟩, A50, H⟩ := H
 replace H : (if t774 = 0 then (if t776 = 0 then ((tacticianref02_Equal.f k t775 t770).bind fun t779 => (tacticianlaw02_RowsBack.j0 k a1 (!t779))) else (tacticianlaw02_RowsBack.j0 k a1 true)) else (tacticianlaw02_RowsBack.j0 k a1 true)) = some r := H
 have A5 := Aside0.mk A50
 clear A50
 have HC6 := Aside0.mk H
 clear H
 go_enter Tryz.func13, Tryz.ntmps13
 go_upto_region 4 with (first | ((with_reducible refine gate_callee (f := 38) rfl ?_); refine goesL_ (some 16) rfl rfl Tryz.func38 (by kernel_rfl) rfl #[.slice A0 l0.length c0, .int .i64 20] rfl (by (try simp only [List.map_toArray, List.map_cons, List.map_nil]); first | done | rfl | (simp only [List.length_drop, List.length_take]; rfl)) ?_; (with_reducible refine (tacticianlaw02_some.calls k _ _ l0 20 t770 _ ?side1 ?side2 A3.out).mono ?_); (case side1 => repeat (first | exact HR0.out | (with_reducible refine Kd.C_alloc ?_ _) | (with_reducible refine Kd.C_drewN ?_ _) | (with_reducible refine Kd.C_drew ?_))); (case side2 => exact HC0.out); rintro e w7 ⟨v771, rfl, ho0, hb⟩; refine ⟨_, rfl, ?_⟩; have n0_ := Aside0.mk (Kd.S_lower ho0 (below_size (by repeat (first | (with_reducible first | exact HB.out | apply yA | apply yN | apply yD) | exact HB.out)))); have n1_ := Aside0.mk (below_step (by repeat (first | (with_reducible first | exact HB.out | apply yA | apply yN | apply yD) | exact HB.out)) hb); clear HB; have HO772 := n0_; have HB := n1_; clear n0_ n1_; (try clear hb); (try clear hb2); (try clear hk); (try clear hi); (try clear ho0); obtain ⟨Ao8, co8, eo8⟩ := Kd.S_slice HO772.out; subst eo8) | ((with_reducible refine gate_callee (f := 48) rfl ?_); refine goesL_ (some 19) rfl rfl Tryz.func48 (by kernel_rfl) rfl #[.slice Ao8 t770.length co8] rfl (by (try simp only [List.map_toArray, List.map_cons, List.map_nil]); first | done | rfl | (simp only [List.length_drop, List.length_take]; rfl)) ?_; (with_reducible refine (rows_String.calls _ _ t770 t773 t774 _ ?side1 ?side2 ?side3 A4.out).mono ?_); (case side1 => repeat (first | exact (Kd.S_reads' HO772.out).2.2 | (with_reducible refine Kd.C_alloc ?_ _) | (with_reducible refine Kd.C_drewN ?_ _) | (with_reducible refine Kd.C_drew ?_))); (case side2 => exact (Kd.S_reads' HO772.out).2.1); (case side3 => exact Laid.below HLD.out.base (by repeat (first | (with_reducible first | exact HB.out | apply yA | apply yN | apply yD) | exact HB.out))); rintro e w9 ⟨rfl, hb⟩; refine ⟨_, rfl, ?_⟩; have n0_ := Aside0.mk (Kd.S_below (by (with_reducible repeat (first | apply Kd.S_alloc | apply Kd.S_drewN | apply Kd.S_drew)); exact HO772.out) hb); have n1_ := Aside0.mk (below_step (by repeat (first | (with_reducible first | exact HB.out | apply yA | apply yN | apply yD) | exact HB.out)) hb); clear HO772; clear HB; have HO772 := n0_; have HB := n1_; clear n0_ n1_; (try clear hb); (try clear hb2); (try clear hk); (try clear hi)) | ((with_reducible refine gate_callee (f := 50) rfl ?_); refine goesL_ (some 24) rfl rfl Tryz.func50 (by kernel_rfl) rfl #[.string t773] rfl (by (try simp only [List.map_toArray, List.map_cons, List.map_nil]); first | done | rfl | (simp only [List.length_drop, List.length_take]; rfl)) ?_; (with_reducible refine (rows_Parse.calls t773 t775 t776 _ ?side1 A5.out).mono ?_); (case side1 => exact LaidE.below HLD.out (by repeat (first | (with_reducible first | exact HB.out | apply yA | apply yN | apply yD) | exact HB.out))); rintro e w10 ⟨v777, rfl, ho0, hb⟩; refine ⟨_, rfl, ?_⟩; have n0_ := Aside0.mk (Kd.S_elder' (by (with_reducible repeat (first | apply Kd.S_alloc | apply Kd.S_drewN | apply Kd.S_drew)); exact HO772.out) (Kd.S_base ho0) hb); have n1_ := Aside0.mk (Kd.S_lower (Kd.S_new' ho0 (Kd.S_lt (by (with_reducible repeat (first | apply Kd.S_alloc | apply Kd.S_drewN | apply Kd.S_drew)); exact HO772.out))) (below_size (by repeat (first | (with_reducible first | exact HB.out | apply yA | apply yN | apply yD) | exact HB.out)))); have n2_ := Aside0.mk (below_step (by repeat (first | (with_reducible first | exact HB.out | apply yA | apply yN | apply yD) | exact HB.out)) hb); clear HO772; clear HB; have HO772 := n0_; have HO778 := n1_; have HB := n2_; clear n0_ n1_ n2_; (try clear hb); (try clear hb2); (try clear hk); (try clear hi); (try clear ho0)))
 (try simp only [Act.put, List.setIfInBounds_toArray, List.set_cons_zero, List.set_cons_succ])
 go_cut [38] (fun v38 wc => ∃ (kq : Nat) (x38_5 : Bool), v38 = .bool x38_5 ∧ Aside0 (tacticianlaw02_RowsBack.j0 kq a1 x38_5 = some r) ∧ Aside0 (kq ≤ k) ∧ Aside0 (Below w.heap.size w wc))
 case first => as_aux_lemma =>
  have H := HC6.out
  clear HC6
  by_cases c11 : t774 = 0
  ·rw [if_pos c11] at H
   have c11b0 : (t774 == 0) = true := beq_iff_eq.mpr c11
   have c11b1 : (t774 != 0) = false := bne_eq_false_iff_eq.mpr c11
   clear c11
   (first | rw [c11b0] | (simp only [i64_w, i32_w]; rw [c11b0]) | skip)
   by_cases c12 : t776 = 0
   ·rw [if_pos c12] at H
    have c12b0 : (t776 == 0) = true := beq_iff_eq.mpr c12
    have c12b1 : (t776 != 0) = false := bne_eq_false_iff_eq.mpr c12
    clear c12
    replace H := Option.bind_eq_some_iff.mp H
    obtain ⟨t779, A130, H⟩ := H
    replace H : (tacticianlaw02_RowsBack.j0 k a1 (!t779)) = some r := H
    have A13 := Aside0.mk A130
    clear A130
    have H' := Aside0.mk H
    clear H
    obtain ⟨Ao14, co14, eo14⟩ := Kd.S_slice HO778.out
    subst eo14
    go_wp2_with (first | (go_at_call 19; (with_reducible refine (tacticianref02_Equal.calls k _ _ t775 _ _ t770 t779 _ ?side1 ?side2 ?side3 ?side4 A13.out).mono ?_); (case side1 => repeat (first | exact (Kd.S_reads' HO778.out).2.2 | (with_reducible refine Kd.C_alloc ?_ _) | (with_reducible refine Kd.C_drewN ?_ _) | (with_reducible refine Kd.C_drew ?_))); (case side2 => exact (Kd.S_reads' HO778.out).2.1); (case side3 => repeat (first | exact (Kd.S_reads' HO772.out).2.2 | (with_reducible refine Kd.C_alloc ?_ _) | (with_reducible refine Kd.C_drewN ?_ _) | (with_reducible refine Kd.C_drew ?_))); (case side4 => exact (Kd.S_reads' HO772.out).2.1); rintro e w15 ⟨rfl, hb⟩; have n0_ := Aside0.mk (Kd.S_below (by (with_reducible repeat (first | apply Kd.S_alloc | apply Kd.S_drewN | apply Kd.S_drew)); exact HO772.out) hb); have n1_ := Aside0.mk (Kd.S_below (by (with_reducible repeat (first | apply Kd.S_alloc | apply Kd.S_drewN | apply Kd.S_drew)); exact HO778.out) hb); have n2_ := Aside0.mk (below_step (by repeat (first | (with_reducible first | exact HB.out | apply yA | apply yN | apply yD) | exact HB.out)) hb); clear HO772; clear HO778; clear HB; have HO772 := n0_; have HO778 := n1_; have HB := n2_; clear n0_ n1_ n2_; (try clear hb); (try clear hb2); (try clear hk); (try clear hi)))
    go_meet
    case rel => exact ⟨_, (!t779), (by first | rfl | (simp; done) | (simp [*]; done)), H', ⟨by first | omega | exact Nat.le_refl _⟩, ⟨by repeat (first | (with_reducible first | exact HB.out | apply yA | apply yN | apply yD) | exact HB.out)⟩⟩
   ·rw [if_neg c12] at H
    have c12b0 : (t776 == 0) = false := beq_eq_false_iff_ne.mpr c12
    have c12b1 : (t776 != 0) = true := bne_iff_ne.mpr c12
    have H' := Aside0.mk H
    clear H
    go_wp2
    go_meet
    case rel => exact ⟨_, (true), (by first | rfl | (simp; done) | (simp [*]; done)), H', ⟨by first | omega | exact Nat.le_refl _⟩, ⟨by repeat (first | (with_reducible first | exact HB.out | apply yA | apply yN | apply yD) | exact HB.out)⟩⟩
  ·rw [if_neg c11] at H
   have c11b0 : (t774 == 0) = false := beq_eq_false_iff_ne.mpr c11
   have c11b1 : (t774 != 0) = true := bne_iff_ne.mpr c11
   (first | rw [c11b0] | (simp only [i64_w, i32_w]; rw [c11b0]) | skip)
   have H' := Aside0.mk H
   clear H
   go_wp2
   go_meet
   case rel => exact ⟨_, (true), (by first | rfl | (simp; done) | (simp [*]; done)), H', ⟨by first | omega | exact Nat.le_refl _⟩, ⟨by repeat (first | (with_reducible first | exact HB.out | apply yA | apply yN | apply yD) | exact HB.out)⟩⟩
 case rest => as_aux_lemma =>
  clear HC6
  try clear c1
  try clear p2
  try clear c3
  try clear c4
  try clear c5
  try clear c11
  try clear c11b0
  try clear c11b1
  try clear c12
  try clear c12b0
  try clear c12b1
  try clear c13
  obtain ⟨kq, x38_5, rfl, HA, HJ5, HB⟩ := hcut
  cases kq with
  | zero => exact absurd HA.out (by simp [tacticianlaw02_RowsBack.j0])
  | succ kj5 =>
   have H := HA.out
   clear HA
   simp only [tacticianlaw02_RowsBack.j0] at H
   by_cases c16 : x38_5 = true
   ·subst c16
    have H1 : (some false) = some r := by rw [if_pos rfl] at H; exact H
    clear H
    have H := H1
    clear H1
    exact absurd ((Option.some.inj H).trans hr_.out) (by decide)
   ·replace c16 := Bool.eq_false_iff.mpr c16
    subst c16
    have H1 : (if 0 ≤ (mn (a1.size : Int) 2000) then (if (mn (a1.size : Int) 2000) ≤ (a1.size : Int) then ((rows_Parse.f (a1.extract 0 ((mn (a1.size : Int) 2000) : Int).toNat)).bind fun bt780 => (if bt780.2 = 0 then ((rows_String.f bt780.1).bind fun bt784 => (if bt784.2 = 0 then (if bt784.1.toList = (a1.extract 0 ((mn (a1.size : Int) 2000) : Int).toNat).toList then ((tacticianlaw02_awake.f).bind fun t786 => (some t786)) else (some false)) else (some false))) else (if (bt780.1.length : Int) = 0 then ((tacticianlaw02_awake.f).bind fun t787 => (some t787)) else (some false)))) else (none)) else (none)) = some r := by rw [if_neg (show ¬ (false = true) by decide)] at H; exact H
    clear H
    have H := H1
    clear H1
    obtain ⟨ji17, hji17⟩ : ∃ j_ : Int, (mn (a1.size : Int) 2000) = j_ := ⟨_, rfl⟩
    replace H : (if 0 ≤ (ji17) then (if (ji17) ≤ (a1.size : Int) then ((rows_Parse.f (a1.extract 0 ((ji17) : Int).toNat)).bind fun bt780 => (if bt780.2 = 0 then ((rows_String.f bt780.1).bind fun bt784 => (if bt784.2 = 0 then (if bt784.1.toList = (a1.extract 0 ((ji17) : Int).toNat).toList then ((tacticianlaw02_awake.f).bind fun t786 => (some t786)) else (some false)) else (some false))) else (if (bt780.1.length : Int) = 0 then ((tacticianlaw02_awake.f).bind fun t787 => (some t787)) else (some false)))) else (none)) else (none)) = some r := by first | (rw [hji17] at H; exact H) | (simp only [hji17] at H ⊢; exact H)
    have hji17_ : (if 2000 < (a1.size : Int) then 2000 else (a1.size : Int)) = ji17 := hji17
    by_cases c18 : 0 ≤ (ji17)
    ·rw [if_pos c18] at H
     have c18b0 := eq_true c18
     have c18b1 : decide (0 ≤ (ji17)) = true := decide_eq_true c18
     clear c18
     by_cases c19 : (ji17) ≤ (a1.size : Int)
     ·rw [if_pos c19] at H
      have c19b0 := eq_true c19
      have c19b1 : decide ((ji17) ≤ (a1.size : Int)) = true := decide_eq_true c19
      clear c19
      replace H := Option.bind_eq_some_iff.mp H
      obtain ⟨⟨t780, t781⟩, A200, H⟩ := H
      replace H : (if t781 = 0 then ((rows_String.f t780).bind fun bt784 => (if bt784.2 = 0 then (if bt784.1.toList = (a1.extract 0 ((ji17) : Int).toNat).toList then ((tacticianlaw02_awake.f).bind fun t786 => (some t786)) else (some false)) else (some false))) else (if (t780.length : Int) = 0 then ((tacticianlaw02_awake.f).bind fun t787 => (some t787)) else (some false))) = some r := H
      have A20 := Aside0.mk A200
      clear A200
      by_cases c21 : t781 = 0
      ·rw [if_pos c21] at H
       have c21b0 : (t781 == 0) = true := beq_iff_eq.mpr c21
       have c21b1 : (t781 != 0) = false := bne_eq_false_iff_eq.mpr c21
       clear c21
       replace H := Option.bind_eq_some_iff.mp H
       obtain ⟨⟨t784, t785⟩, A220, H⟩ := H
       replace H : (if t785 = 0 then (if t784.toList = (a1.extract 0 ((ji17) : Int).toNat).toList then ((tacticianlaw02_awake.f).bind fun t786 => (some t786)) else (some false)) else (some false)) = some r := H
       have A22 := Aside0.mk A220
       clear A220
       by_cases c23 : t785 = 0
       ·rw [if_pos c23] at H
        have c23b0 : (t785 == 0) = true := beq_iff_eq.mpr c23
        have c23b1 : (t785 != 0) = false := bne_eq_false_iff_eq.mpr c23
        clear c23
        by_cases c24 : t784.toList = (a1.extract 0 ((ji17) : Int).toNat).toList
        ·rw [if_pos c24] at H
         have c24b0 : (t784.toList == (a1.extract 0 ((ji17) : Int).toNat).toList) = true := beq_iff_eq.mpr c24
         have c24b1 : (t784.toList != (a1.extract 0 ((ji17) : Int).toNat).toList) = false := bne_eq_false_iff_eq.mpr c24
         clear c24
         replace H := Option.bind_eq_some_iff.mp H
         obtain ⟨t786, A250, H⟩ := H
         replace H : (some t786) = some r := H
         have A25 := Aside0.mk A250
         clear A250
         obtain rfl := Option.some.inj H
         go_wp2_with (first | ((with_reducible refine gate_callee (f := 50) rfl ?_); refine goesL_ (some 46) rfl rfl Tryz.func50 (by kernel_rfl) rfl #[.string (a1.extract 0 ((ji17) : Int).toNat)] rfl (by (try simp only [List.map_toArray, List.map_cons, List.map_nil]); first | done | (simp only [hji17]; rfl) | rfl | (simp only [List.length_drop, List.length_take]; rfl)) ?_; (with_reducible refine (rows_Parse.calls (a1.extract 0 ((ji17) : Int).toNat) t780 t781 _ ?side1 A20.out).mono ?_); (case side1 => exact LaidE.below HLD.out (by repeat (first | (with_reducible first | exact HB.out | apply yA | apply yN | apply yD) | exact HB.out))); rintro e w26 ⟨v782, rfl, ho0, hb⟩; refine ⟨_, rfl, ?_⟩; have n0_ := Aside0.mk (Kd.S_lower ho0 (below_size (by repeat (first | (with_reducible first | exact HB.out | apply yA | apply yN | apply yD) | exact HB.out)))); have n1_ := Aside0.mk (below_step (by repeat (first | (with_reducible first | exact HB.out | apply yA | apply yN | apply yD) | exact HB.out)) hb); clear HB; have HO783 := n0_; have HB := n1_; clear n0_ n1_; (try clear hb); (try clear hb2); (try clear hk); (try clear hi); (try clear ho0); obtain ⟨Ao27, co27, eo27⟩ := Kd.S_slice HO783.out; subst eo27) | ((with_reducible refine gate_callee (f := 48) rfl ?_); refine goesL_ (some 59) rfl rfl Tryz.func48 (by kernel_rfl) rfl #[.slice Ao27 t780.length co27] rfl (by (try simp only [List.map_toArray, List.map_cons, List.map_nil]); first | done | rfl | (simp only [List.length_drop, List.length_take]; rfl)) ?_; (with_reducible refine (rows_String.calls _ _ t780 t784 t785 _ ?side1 ?side2 ?side3 A22.out).mono ?_); (case side1 => repeat (first | exact (Kd.S_reads' HO783.out).2.2 | (with_reducible refine Kd.C_alloc ?_ _) | (with_reducible refine Kd.C_drewN ?_ _) | (with_reducible refine Kd.C_drew ?_))); (case side2 => exact (Kd.S_reads' HO783.out).2.1); (case side3 => exact Laid.below HLD.out.base (by repeat (first | (with_reducible first | exact HB.out | apply yA | apply yN | apply yD) | exact HB.out))); rintro e w28 ⟨rfl, hb⟩; refine ⟨_, rfl, ?_⟩; have n0_ := Aside0.mk (Kd.S_below (by (with_reducible repeat (first | apply Kd.S_alloc | apply Kd.S_drewN | apply Kd.S_drew)); exact HO783.out) hb); have n1_ := Aside0.mk (below_step (by repeat (first | (with_reducible first | exact HB.out | apply yA | apply yN | apply yD) | exact HB.out)) hb); clear HO783; clear HB; have HO783 := n0_; have HB := n1_; clear n0_ n1_; (try clear hb); (try clear hb2); (try clear hk); (try clear hi)) | (go_at_call 18; (with_reducible refine (tacticianlaw02_awake.calls  t786 _ ?side1 A25.out).mono ?_); (case side1 => exact Laid.below HLD.out.base (by repeat (first | (with_reducible first | exact HB.out | apply yA | apply yN | apply yD) | exact HB.out))); rintro e w29 ⟨rfl, hb⟩; have n0_ := Aside0.mk (Kd.S_below (by (with_reducible repeat (first | apply Kd.S_alloc | apply Kd.S_drewN | apply Kd.S_drew)); exact HO783.out) hb); have n1_ := Aside0.mk (below_step (by repeat (first | (with_reducible first | exact HB.out | apply yA | apply yN | apply yD) | exact HB.out)) hb); clear HO783; clear HB; have HO783 := n0_; have HB := n1_; clear n0_ n1_; (try clear hb); (try clear hb2); (try clear hk); (try clear hi)))
         go_ret
         exact ⟨by first | rfl | (simp [errW_none, errW_some] <;> rfl) | (simp only [← hji17]; first | rfl | (simp [errW_none, errW_some] <;> rfl)) | (simp [*, errW_none, errW_some] <;> rfl), by repeat (first | (with_reducible first | exact HB.out | apply yA | apply yN | apply yD) | exact HB.out)⟩
        ·rw [if_neg c24] at H
         have c24b0 : (t784.toList == (a1.extract 0 ((ji17) : Int).toNat).toList) = false := beq_eq_false_iff_ne.mpr c24
         have c24b1 : (t784.toList != (a1.extract 0 ((ji17) : Int).toNat).toList) = true := bne_iff_ne.mpr c24
         exact absurd ((Option.some.inj H).trans hr_.out) (by decide)
       ·rw [if_neg c23] at H
        have c23b0 : (t785 == 0) = false := beq_eq_false_iff_ne.mpr c23
        have c23b1 : (t785 != 0) = true := bne_iff_ne.mpr c23
        exact absurd ((Option.some.inj H).trans hr_.out) (by decide)
      ·rw [if_neg c21] at H
       have c21b0 : (t781 == 0) = false := beq_eq_false_iff_ne.mpr c21
       have c21b1 : (t781 != 0) = true := bne_iff_ne.mpr c21
       by_cases c30 : (t780.length : Int) = 0
       ·rw [if_pos c30] at H
        have c30b0 : ((t780.length : Int) == 0) = true := beq_iff_eq.mpr c30
        have c30b1 : ((t780.length : Int) != 0) = false := bne_eq_false_iff_eq.mpr c30
        clear c30
        replace H := Option.bind_eq_some_iff.mp H
        obtain ⟨t787, A310, H⟩ := H
        replace H : (some t787) = some r := H
        have A31 := Aside0.mk A310
        clear A310
        obtain rfl := Option.some.inj H
        go_wp2_with (first | ((with_reducible refine gate_callee (f := 50) rfl ?_); refine goesL_ (some 46) rfl rfl Tryz.func50 (by kernel_rfl) rfl #[.string (a1.extract 0 ((ji17) : Int).toNat)] rfl (by (try simp only [List.map_toArray, List.map_cons, List.map_nil]); first | done | (simp only [hji17]; rfl) | rfl | (simp only [List.length_drop, List.length_take]; rfl)) ?_; (with_reducible refine (rows_Parse.calls (a1.extract 0 ((ji17) : Int).toNat) t780 t781 _ ?side1 A20.out).mono ?_); (case side1 => exact LaidE.below HLD.out (by repeat (first | (with_reducible first | exact HB.out | apply yA | apply yN | apply yD) | exact HB.out))); rintro e w32 ⟨v782, rfl, ho0, hb⟩; refine ⟨_, rfl, ?_⟩; have n0_ := Aside0.mk (Kd.S_lower ho0 (below_size (by repeat (first | (with_reducible first | exact HB.out | apply yA | apply yN | apply yD) | exact HB.out)))); have n1_ := Aside0.mk (below_step (by repeat (first | (with_reducible first | exact HB.out | apply yA | apply yN | apply yD) | exact HB.out)) hb); clear HB; have HO783 := n0_; have HB := n1_; clear n0_ n1_; (try clear hb); (try clear hb2); (try clear hk); (try clear hi); (try clear ho0); obtain ⟨Ao33, co33, eo33⟩ := Kd.S_slice HO783.out; subst eo33) | (go_at_call 18; (with_reducible refine (tacticianlaw02_awake.calls  t787 _ ?side1 A31.out).mono ?_); (case side1 => exact Laid.below HLD.out.base (by repeat (first | (with_reducible first | exact HB.out | apply yA | apply yN | apply yD) | exact HB.out))); rintro e w34 ⟨rfl, hb⟩; have n0_ := Aside0.mk (Kd.S_below (by (with_reducible repeat (first | apply Kd.S_alloc | apply Kd.S_drewN | apply Kd.S_drew)); exact HO783.out) hb); have n1_ := Aside0.mk (below_step (by repeat (first | (with_reducible first | exact HB.out | apply yA | apply yN | apply yD) | exact HB.out)) hb); clear HO783; clear HB; have HO783 := n0_; have HB := n1_; clear n0_ n1_; (try clear hb); (try clear hb2); (try clear hk); (try clear hi)))
        go_ret
        exact ⟨by first | rfl | (simp [errW_none, errW_some] <;> rfl) | (simp only [← hji17]; first | rfl | (simp [errW_none, errW_some] <;> rfl)) | (simp [*, errW_none, errW_some] <;> rfl), by repeat (first | (with_reducible first | exact HB.out | apply yA | apply yN | apply yD) | exact HB.out)⟩
       ·rw [if_neg c30] at H
        have c30b0 : ((t780.length : Int) == 0) = false := beq_eq_false_iff_ne.mpr c30
        have c30b1 : ((t780.length : Int) != 0) = true := bne_iff_ne.mpr c30
        have c30b2 : ¬ (t780 = []) := fun h_ => c30 (by rw [h_]; rfl)
        exact absurd ((Option.some.inj H).trans hr_.out) (by decide)
     ·rw [if_neg c19] at H
      exact absurd H (by simp)
    ·rw [if_neg c18] at H
     exact absurd H (by simp)
end Go.Proofs.YtmhobbdedmjmnaaGreatDoor.Q
end
section
/- What the law RowsBack computes answers as it says, in plain words: no program in sight. -/
namespace Go.Proofs.YtmhobbdedmjmnaaGreatDoor
open Go.RowKit Go.Proofs.YtmhobbdedmjmnaaGreatDoor.Q Go.Proofs.YtmhobbdedmjmnaaGreatDoorW.PrintWords Go.Proofs.YtmhobbdedmjmnaaGreatDoorW.PrintLast Go.Proofs.YtmhobbdedmjmnaaGreatDoorW.PrintMore
theorem smallV_len {v : V} (h : SmallV v.f0 v.f1 v.f2) : (wrL v).length ≤ 20 := by
  have h1 := h.1
  unfold wrL writL
  rcases okV_cases h1 with ⟨e, _, _⟩ | ⟨e, hi, _⟩ | ⟨e, e1, _⟩ | ⟨e, _, hs, _⟩
  · rw [e, if_neg (by decide), if_neg (by decide), if_neg (by decide)]; decide
  · rw [e, if_pos rfl]
    exact (itoa_len v.f1 hi).2
  · rw [e, if_neg (by decide), if_pos rfl]
    by_cases q : v.f1 = 1
    · rw [if_pos q]; decide
    · rw [if_neg q]; decide
  · rw [e, if_neg (by decide), if_neg (by decide), if_pos rfl]
    have h2 := dbl_le v.f2.data.toList
    have h3 : v.f2.data.toList.length = v.f2.size := Array.length_toList
    have h4 := h.2
    simp only [List.length_cons, List.length_append, List.length_nil]
    omega
theorem tameR_len {r : List V} (h : TameR r) : (rowL r).length ≤ 100 := by
  have h1 := join_len [44, 32] 20 (r.map wrL) fun x hx => by
    obtain ⟨v, hv, rfl⟩ := List.mem_map.1 hx
    exact smallV_len (h.2 v hv)
  rw [List.length_map, h.1] at h1
  have h2 : (Lib.join (r.map wrL) [44, 32]).length ≤ 66 := h1
  unfold rowL
  rw [List.length_cons, List.length_append, List.length_singleton]
  omega
theorem goodR_len : ∀ (l : List (List V)), (∀ r ∈ l, TameR r) → (strR l).length ≤ l.length * 101
  | [], _ => Nat.le_refl _
  | r :: l, h => by
    have h1 := tameR_len (h r List.mem_cons_self)
    have h2 := goodR_len l fun y hy => h y (List.mem_cons_of_mem _ hy)
    have e : strR (r :: l) = (rowL r ++ [10]) ++ strR l := by simp [strR]
    rw [e, List.length_append, List.length_append, List.length_singleton, List.length_cons, Nat.succ_mul]
    omega
theorem back_j0 (s : ByteArray) (k : Nat) : tacticianlaw02_RowsBack.j0 (k + 1) s false = some true := by
  have hm := mn_leW (s.size : Int) 2000 (by omega) (by omega)
  have haw : tacticianlaw02_awake.f = some true := rfl
  rw [tacticianlaw02_RowsBack.j0, if_neg (by decide), if_pos hm.1, if_pos hm.2.1]
  have hz : (s.extract 0 (mn (s.size : Int) 2000).toNat).size ≤ 2000 := by rw [ByteArray.size_extract]; omega
  generalize s.extract 0 (mn (s.size : Int) 2000).toNat = t at hz ⊢
  rw [rowsParse t (by omega), Option.bind_some]
  have hnone : (if ((([], 20) : List (List V) × Int)).2 = 0 then (rows_String.f (([], 20) : List (List V) × Int).1).bind fun bt784 => (if bt784.2 = 0 then (if bt784.1.toList = t.toList then (tacticianlaw02_awake.f).bind fun t786 => some t786 else some false) else some false) else (if ((([], 20) : List (List V) × Int).1.length : Int) = 0 then (tacticianlaw02_awake.f).bind fun t787 => some t787 else some false)) = some true := by
    dsimp only
    rw [if_neg (by decide), if_pos (by decide), haw, Option.bind_some]
  cases e : readP (t.size + 1) t [] with
  | none => exact hnone
  | some L =>
    obtain ⟨l, e1, hok, hstr⟩ := readP_sound _ _ _ _ e
    rw [List.nil_append] at e1
    subst e1
    have h1 := smallE_read hok
    by_cases hl : largeR L = true
    · rw [if_pos hl] at h1
      have e2 : endP (some L) = ([], 20) := by unfold endP; dsimp only; rw [h1, if_neg (by decide)]
      rw [e2]
      exact hnone
    · rw [if_neg hl] at h1
      have hl' : largeR L = false := by simpa using hl
      have e2 : endP (some L) = (L, 0) := by unfold endP; dsimp only; rw [if_pos h1]
      have h2 := (rowsOk_read hok hl').2
      have h3 : (strR L).length ≤ 2000 := by rw [hstr, Array.length_toList]; exact hz
      rw [e2]
      dsimp only
      unfold rows_String.f
      rw [if_pos rfl, if_pos h1, if_pos h2, if_pos (by omega), Option.bind_some]
      dsimp only
      rw [if_pos rfl, hstr, ofL_toList, if_pos rfl, haw, Option.bind_some]
theorem pure_RowsBack : ∀ (l0 : (List (List V))) (a1 : ByteArray), argRows l0 → (a1.size ≤ 140737488351232) → ∃ k, Q.tacticianlaw02_RowsBack.f k (l0) (a1) = some true := by
  intro l0 s h0 _
  refine ⟨200001, ?_⟩
  obtain ⟨L, e, hl, ht⟩ := some_at l0 h0 20 (by omega) 200001 (by omega)
  have hg : GoodR L := ⟨by omega, ht⟩
  have hok : ∀ r ∈ L, ∀ v ∈ r, OkV v := fun r hr v hv => ((ht r hr).2 v hv).1
  have hrr : okRR L = true := okRR_mk (by omega) fun r hr => okRow_mk (by have := (ht r hr).1; omega) (hok r hr)
  have hlen := goodR_len L ht
  have hlen2 := Nat.mul_le_mul_right 101 hl
  have hsm := hg.small
  unfold tacticianlaw02_RowsBack.f
  have hstr : rows_String.f L = some (ofL (strR L), 0) := by
    unfold rows_String.f
    rw [if_pos hsm, if_pos hrr, if_pos (by omega)]
  have hz : (ofL (strR L)).size = (strR L).length := ofL_size _
  have hread : readP ((ofL (strR L)).size + 1) (ofL (strR L)) [] = some ([] ++ L) := readP_at L _ _ [] hok (ofL_data _) (by omega)
  have hend : rows_Parse.f (ofL (strR L)) = some (L, 0) := by
    rw [rowsParse _ (by omega), hread, List.nil_append]
    unfold endP
    dsimp only
    rw [if_pos hsm]
  have hrow := hg.ok.grow (show 100 ≤ 100000 by omega)
  rw [show (20 : Int) = ((20 : Nat) : Int) from rfl, e, Option.bind_some, hstr, Option.bind_some]
  dsimp only
  rw [hend, Option.bind_some, if_pos rfl, if_pos rfl]
  dsimp only
  rw [refEqual2 L L hrow hrow 200001 (by omega), Option.bind_some, decide_eq_true rfl]
  exact back_j0 s 200000
end Go.Proofs.YtmhobbdedmjmnaaGreatDoor
end
section
/- From data that are read (the form's 'trod') to what the printed contracts ask: numbers, bools, strings, slices, structs; with the reach's bounds. -/
namespace Go.Proofs.YtmhobbdedmjmnaaGreatDoor
open Go.RowKit Go.Proofs.YtmhobbdedmjmnaaGreatDoor.Q Go.Proofs.YtmhobbdedmjmnaaGreatDoorW.PrintWords Go.Proofs.YtmhobbdedmjmnaaGreatDoorW.PrintLast Go.Proofs.YtmhobbdedmjmnaaGreatDoorW.PrintMore
variable {α : Type}
/-- Data of type t that can be read are such a value; within the reach it is 'ok'. -/
def Opens (P : Program) (t : TypeId) (d : Kd α) (ok : α → Prop) : Prop :=
  ∀ (H : Type) (enc : TypeId × Value → H) (W : World) (base : Nat) (spare : Nat → Bool) (held : Bool) (fuel : Nat) (cs : List Value) (x : DataW H × List MemPlace),
    DataW.trod enc P W base spare held fuel t cs = some x → ∃ a, d.K W a cs ∧ (((DataW.weights P t x.1).all (· ≤ reachBytes)) = true → ok a)
theorem Opens.int {P : Program} {t : TypeId} {k : IntKind} (ht : P.underlying t = some (.int k)) : Opens P t (Kd.int k) (fun a => (Lit.int k a).wf = true) := by
  intro H enc W base spare held fuel cs x h
  obtain ⟨a, e0, rfl, wa⟩ := DataW.trod_int ht h
  exact ⟨a, e0, fun _ => wa⟩
theorem Opens.bool {P : Program} {t : TypeId} (ht : P.underlying t = some .bool) : Opens P t Kd.bool (fun _ => True) := by
  intro H enc W base spare held fuel cs x h
  obtain ⟨a, e0, rfl⟩ := DataW.trod_bool ht h
  exact ⟨a, e0, fun _ => trivial⟩
theorem Opens.string {P : Program} {t : TypeId} (ht : P.underlying t = some .string) : Opens P t Kd.string (fun a => a.size ≤ 140737488351232) := by
  intro H enc W base spare held fuel cs x h
  obtain ⟨a, e0, rfl, ws⟩ := DataW.trod_string ht h
  refine ⟨a, e0, fun hw => ?_⟩
  simp only [DataW.weights, List.all_cons, List.all_nil, Bool.and_true, decide_eq_true_eq] at hw
  have e : a.data.toList.length = a.size := Array.length_toList
  unfold reachBytes at hw
  omega
theorem mem_weightsAll {H : Type} (P : Program) (e : TypeId) : ∀ (l : List (DataW H)) (d : DataW H), d ∈ l → ∀ n, n ∈ d.weights P e → n ∈ DataW.weightsAll P e l := by
  intro l
  induction l with
  | nil => intro d hd; cases hd
  | cons z r ih =>
    intro d hd n hn
    rw [DataW.weightsAll, List.mem_append]
    rcases List.mem_cons.1 hd with rfl | hd
    · exact .inl hn
    · exact .inr (ih d hd n hn)
/-- choice along a list's places -/
theorem choose_list {β : Type} (n : Nat) (p : Nat → β → Prop) (h : ∀ i, i < n → ∃ b, p i b) : ∃ l : List β, l.length = n ∧ ∀ i b, l[i]? = some b → p i b := by
  induction n with
  | zero => exact ⟨[], rfl, fun i b hb => by simp at hb⟩
  | succ n ih =>
    obtain ⟨l, hl, hp⟩ := ih (fun i hi => h i (by omega))
    obtain ⟨b, hb⟩ := h n (by omega)
    refine ⟨l ++ [b], by simp [hl], fun i b' hb' => ?_⟩
    by_cases hi : i < l.length
    · rw [List.getElem?_append_left hi] at hb'; exact hp i b' hb'
    · rw [List.getElem?_append_right (by omega)] at hb'
      have hi2 : i = n := by
        rcases Nat.lt_or_ge (i - l.length) 1 with h1 | h1
        · omega
        · rw [List.getElem?_eq_none (by simpa using h1)] at hb'; cases hb'
      subst hi2
      rw [show i - l.length = 0 by omega] at hb'
      simp at hb'
      rw [← hb']; exact hb
theorem Opens.slice {P : Program} {t e : TypeId} {d : Kd α} {ok : α → Prop} {n : Nat} (ht : P.underlying t = some (.slice e)) (hc : P.cellsOf e = d.sz) (hb : P.bytesOf e = n) (hd : Opens P e d ok) :
    Opens P t (Kd.slice e d) (fun l => l.length * n ≤ 140737488351232 ∧ l.length ≤ maxLen ∧ ∀ a ∈ l, ok a) := by
  intro H enc W base spare held fuel cs x h
  rcases Go.Deep.open_slice ht h with ⟨rfl, rfl⟩ | ⟨a, len, cap, m, n', D, Pl, rfl, _, hl, hm, hmm, rfl, hx⟩
  · exact ⟨[], ⟨none, 0, rfl, Nat.le_refl _, rfl, by simp, fun h => absurd h (Nat.lt_irrefl _)⟩, fun _ => ⟨by simp, by simp, fun a ha => by cases ha⟩⟩
  · have hlm : len ≤ m := by rw [hmm]; split <;> omega
    obtain ⟨l, hll, hp⟩ := choose_list len (fun i z => ∃ cs', W.cells? base (a.add (i * P.cellsOf e)) (P.cellsOf e) = some cs' ∧ d.K W z cs' ∧ (((DataW.weights P e (D i)).all (· ≤ reachBytes)) = true → ok z)) (fun i hi => by
      obtain ⟨cs', h1, h2⟩ := hx i (by omega)
      obtain ⟨z, hz, hok⟩ := hd H enc W base spare held n' cs' _ h2
      exact ⟨z, cs', h1, hz, hok⟩)
    subst hll
    unfold maxLen at hm
    refine ⟨l, ⟨some a, cap, rfl, hl, rfl, by omega, fun _ => ⟨a, rfl, fun j p hj => ?_⟩⟩, fun hw => ?_⟩
    · obtain ⟨cs', h1, h2, _⟩ := hp j p hj
      rw [hc] at h1
      obtain ⟨_, hlen, hcell⟩ := World.cells?_some h1
      refine ⟨cs', hlen, h2, fun i u hu => ?_⟩
      have hi : i < d.sz := by rw [← hlen]; exact (List.getElem?_eq_some_iff.1 hu).1
      have := (hcell i hi).trans hu
      rw [Addr.add_add] at this
      exact this
    · rw [DataW.weights, ht] at hw
      simp only [List.all_cons, List.all_append, Bool.and_eq_true, decide_eq_true_eq] at hw
      obtain ⟨h1, h2, _⟩ := hw
      rw [hb] at h1
      refine ⟨?_, by unfold maxLen; omega, fun z hz => ?_⟩
      · have h3 : l.length * n ≤ (((List.range l.length).map D).length + ((List.range (m - l.length)).map fun j => D (l.length + j)).length) * n := Nat.mul_le_mul_right _ (by simp)
        unfold reachBytes at h1
        omega
      · obtain ⟨i, hi, rfl⟩ := List.getElem_of_mem hz
        obtain ⟨_, _, _, hok⟩ := hp i _ (List.getElem?_eq_getElem hi)
        refine hok ?_
        rw [List.all_eq_true] at h2 ⊢
        intro q hq
        exact h2 q (mem_weightsAll P e _ (D i) (List.mem_map.2 ⟨i, List.mem_range.2 hi, rfl⟩) q hq)
set_option maxRecDepth 100000 in
/-- a value: three cells -/
theorem Opens.value : Opens Tryz.prog 61 k61 (fun v => (Lit.int .i64 v.f0).wf = true ∧ (Lit.int .i64 v.f1).wf = true ∧ v.f2.size ≤ 140737488351232) := by
  intro H enc W base spare held fuel cs x h
  obtain ⟨y0, y1, y2, n, rfl, hl, h0, h1, h2⟩ := Go.Deep.trod_struct3 Tryz.underlying61 h
  have hc : Tryz.prog.cellsOf 61 = 3 := by kernel_rfl
  have c0 : Tryz.prog.cellsOf 59 = 1 := by kernel_rfl
  have c1 : Tryz.prog.cellsOf 2 = 1 := by kernel_rfl
  have c2 : Tryz.prog.cellsOf 9 = 1 := by kernel_rfl
  rw [hc] at hl
  simp only [c0, c1, c2] at h0 h1 h2
  obtain ⟨a, e0, o0⟩ := Opens.int Tryz.underlying59 H enc W base spare held _ _ _ h0
  obtain ⟨b, e1, o1⟩ := Opens.int Tryz.underlying2 H enc W base spare held _ _ _ h1
  obtain ⟨c, e2, o2⟩ := Opens.string Tryz.underlying9 H enc W base spare held _ _ _ h2
  match cs, hl with
  | [z0, z1, z2], _ =>
    have q0 : [z0] = [Value.int .i64 a] := e0
    have q1 : [z1] = [Value.int .i64 b] := e1
    have q2 : [z2] = [Value.string c] := e2
    simp only [List.cons.injEq, and_true] at q0 q1 q2
    subst q0 q1 q2
    refine ⟨⟨a, b, c⟩, k61_mk W ⟨a, b, c⟩, fun hw => ?_⟩
    rw [DataW.weights, Tryz.underlying61] at hw
    simp only [List.map_cons, List.map_nil, DataW.weightsEach, List.all_append, List.append_nil, Bool.and_eq_true] at hw
    exact ⟨o0 hw.1, o1 hw.2.1, o2 hw.2.2⟩
end Go.Proofs.YtmhobbdedmjmnaaGreatDoor
end
