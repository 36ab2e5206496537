/- Lemmas for the claim: contracts of functions and facts about what they compute, part 6 (texts put together, and cut down to what is used, by a program of ours). -/
import Derived.Test.YtmhobbdedmjmnaaGreatDoorMTogether4
section
/- Each function reached is shown to return what the plain function beside it computes, wherever that is defined (written by a program of ours for this seat). -/
namespace Go.Proofs.YtmhobbdedmjmnaaGreatDoor.Q
open Go.RowKit Go.Proofs.YtmhobbdedmjmnaaGreatDoorW.PrintWords Go.Proofs.YtmhobbdedmjmnaaGreatDoorW.PrintLast Go.Proofs.YtmhobbdedmjmnaaGreatDoorW.PrintMore
attribute [local go_sem] max2_int min2_int max_two min_two max_three min_three max_four min_four   -- for this text's walks alone
set_option linter.unusedVariables false
set_option linter.unusedSimpArgs false
mutual
def tacticianref02_TameRows.l0 : Nat → List (S88) → List (List (S61)) → Int → List (List (S61)) → Int → Option ((List (List (S61))))
  | 0, _, _, _, _, _ => none
  | k + 1, x0, x1, x2, x7, x8 => if x8 < (x1.length : Int) then (tacticianref02_TameRows.j1 k x0 x1 x2 x7 x8 (decide (x8 < x2))) else (tacticianref02_TameRows.j1 k x0 x1 x2 x7 x8 false)
def tacticianref02_TameRows.j1 : Nat → List (S88) → List (List (S61)) → Int → List (List (S61)) → Int → Bool → Option ((List (List (S61))))
  | 0, _, _, _, _, _, _ => none
  | k + 1, x0, x1, x2, x7, x8, x20 => if x20 = true then (tacticianref02_TameRows.l1 k x0 x1 x2 x7 x8 ([] : List (S61)) 0) else (some x7)
def tacticianref02_TameRows.l1 : Nat → List (S88) → List (List (S61)) → Int → List (List (S61)) → Int → List (S61) → Int → Option ((List (List (S61))))
  | 0, _, _, _, _, _, _, _ => none
  | k + 1, x0, x1, x2, x7, x8, x9, x10 => if x10 < (x0.length : Int) then (if 0 ≤ x8 then (if x8 < (x1.length : Int) then (if ((rd_L3 x1 x8).length : Int) > 0 then (if ((rd_L3 x1 x8).length : Int) = 0 then (none) else (if 0 ≤ (Int.tmod x10 ((rd_L3 x1 x8).length : Int)) then (if (Int.tmod x10 ((rd_L3 x1 x8).length : Int)) < ((rd_L3 x1 x8).length : Int) then (if 0 ≤ x10 then ((tacticianref01_TameAs.f k ((rd_T61 (rd_L3 x1 x8) (Int.tmod x10 ((rd_L3 x1 x8).length : Int))).f0) (wrap64 (((rd_T61 (rd_L3 x1 x8) (Int.tmod x10 ((rd_L3 x1 x8).length : Int))).f1) + (wrap64 (Int.tdiv x10 ((rd_L3 x1 x8).length : Int))))) ((rd_T61 (rd_L3 x1 x8) (Int.tmod x10 ((rd_L3 x1 x8).length : Int))).f2) ((rd_T88 x0 x10).f0) ((rd_T88 x0 x10).f1)).bind fun bt507 => (if x9.length < 4398046511104 then (tacticianref02_TameRows.l1 k x0 x1 x2 x7 x8 (x9 ++ [(⟨bt507.1, bt507.2.1, bt507.2.2⟩ : S61)]) (wrap64 (x10 + 1))) else (none))) else (none)) else (none)) else (none))) else (if 0 ≤ x10 then ((tacticianref01_TameAs.f k 0 0 (⟨#[]⟩ : ByteArray) ((rd_T88 x0 x10).f0) ((rd_T88 x0 x10).f1)).bind fun bt514 => (if x9.length < 4398046511104 then (tacticianref02_TameRows.l1 k x0 x1 x2 x7 x8 (x9 ++ [(⟨bt514.1, bt514.2.1, bt514.2.2⟩ : S61)]) (wrap64 (x10 + 1))) else (none))) else (none))) else (none)) else (none)) else (if x7.length < 5864062014805 then (tacticianref02_TameRows.l0 k x0 x1 x2 (x7 ++ [x9]) (wrap64 (x8 + 1))) else (none))
end
def tacticianref02_TameRows.f (k : Nat) (l0 : List (S88)) (l1 : List (List (S61))) (a2 : Int) : Option ((List (List (S61)))) := tacticianref02_TameRows.l0 k l0 l1 a2 ([] : List (List (S61))) 0
def tacticianref02_TameRows.T11 : Bool × List (List Nat × List Nat) := (true, [([], []), ([], []), ([0, 1], [0, 1]), ([2], [2]), ([], []), ([], []), ([], []), ([5, 6], [5, 6]), ([7], [7]), ([8], [8]), ([4, 9], [4, 9]), ([3, 10], [3, 10]), ([11], [11]), ([12, 0, 1, 2, 3, 4, 5, 6, 7, 8, 9, 10, 11, 12], [12])])
def tacticianref02_TameRows.B11 : List Nat := [0, 0, 3, 7, 0, 0, 0, 96, 224, 480, 1008, 2047, 4095, 8191]
theorem tacticianref02_TameRows.tab11 : rtab .any (opsOf Tryz.f73 11) = tacticianref02_TameRows.T11 := by kernel_rfl
theorem tacticianref02_TameRows.bits11 : waitsOk tacticianref02_TameRows.T11.2 tacticianref02_TameRows.B11 = true := by kernel_rfl
def tacticianref02_TameRows.T12 : Bool × List (List Nat × List Nat) := (true, [([], []), ([0], [0]), ([], []), ([], []), ([], []), ([3, 4], [3, 4]), ([5], [5]), ([6], [6]), ([2, 7], [2, 7]), ([1, 8], [1, 8]), ([0, 1, 2, 3, 4, 5, 6, 7, 8, 9], []), ([10, 9, 0, 1, 2, 3, 4, 5, 6, 7, 8, 9], [9, 10])])
def tacticianref02_TameRows.B12 : List Nat := [0, 1, 0, 0, 0, 24, 56, 120, 252, 511, 1023, 2047]
theorem tacticianref02_TameRows.tab12 : rtab .any (opsOf Tryz.f73 12) = tacticianref02_TameRows.T12 := by kernel_rfl
theorem tacticianref02_TameRows.bits12 : waitsOk tacticianref02_TameRows.T12.2 tacticianref02_TameRows.B12 = true := by kernel_rfl
def tacticianref02_TameRows.T13 : Bool × List (List Nat × List Nat) := (true, [([], []), ([], []), ([], []), ([], []), ([2, 3], [2, 3]), ([4], [4]), ([1, 5], [1, 5]), ([6], [6]), ([0, 7, 6], [0, 7]), ([8, 8, 0, 1, 2, 3, 4, 5, 6, 7, 8], [0, 8])])
def tacticianref02_TameRows.B13 : List Nat := [0, 0, 0, 0, 12, 28, 62, 126, 255, 511]
theorem tacticianref02_TameRows.tab13 : rtab .any (opsOf Tryz.f73 13) = tacticianref02_TameRows.T13 := by kernel_rfl
theorem tacticianref02_TameRows.bits13 : waitsOk tacticianref02_TameRows.T13.2 tacticianref02_TameRows.B13 = true := by kernel_rfl
set_option maxHeartbeats 8000000 in
set_option maxRecDepth 100000 in
theorem tacticianref02_TameRows.calls (k : Nat) (A0 : Option Addr) (c0 : Nat) (l0 : List (S88)) (A1 : Option Addr) (c1 : Nat) (l1 : List (List (S61))) (a2 : Int) (r : List (List (S61))) (w : World) (hr0 : Kd.C k88 w A0 l0.length l0) (hc0 : l0.length ≤ c0) (hr1 : Kd.C (Kd.slice 61 k61) w A1 l1.length l1) (hc1 : l1.length ≤ c1) (h : tacticianref02_TameRows.f k l0 l1 a2 = some r) :
  Calls Tryz.prog 73 #[.slice A0 l0.length c0, .slice A1 l1.length c1, .int .i64 a2] w fun e w' => ∃ v0_ : Value, e = .returned (v0_) ∧ Kd.S (Kd.slice 61 k61) 40 w' w.heap.size (fun _ => True) v0_ r ∧ Below w.heap.size w w' := by
 have hu61 := Tryz.underlying61
 have hu88 := Tryz.underlying88
 have HR0 := Aside0.mk hr0
 have HC0 := Aside0.mk hc0
 clear hr0 hc0
 have HR1 := Aside0.mk hr1
 have HC1 := Aside0.mk hc1
 clear hr1 hc1
 have HB := Aside0.mk (Below.refl w.heap.size w)
 have H : (tacticianref02_TameRows.l0 k l0 l1 a2 ([] : List (List (S61))) 0) = some r := h
 clear h
 have H' := Aside0.mk H
 clear H
 go_enter Tryz.func73, Tryz.ntmps73
 go_wp2
 go_loopg [7, 8] k (fun kq v7 v8 w' => ∃ (x7_1 : List (List (S61))) (x8_1 : Int), v8 = .int .i64 x8_1 ∧ Aside0 (tacticianref02_TameRows.l0 kq l0 l1 a2 x7_1 x8_1 = some r) ∧ Aside0 (kq ≤ k) ∧ Aside0 (Kd.S (Kd.slice 61 k61) 40 w' w.heap.size (fun _ => True) v7 x7_1) ∧ Aside0 (Below w.heap.size w w'))
 case atStart => exact ⟨(([] : List (List (S61)))), (0), (by first | rfl | (simp; done) | (simp [*]; done)), H', ⟨Nat.le_refl _⟩, ⟨by first | exact Kd.S_nil _ _ _ _ _ | exact Kd.N_nil _ _ _ _ _ | exact Kd.V_nil _ _ _ _ _ | exact Kd.Q_nil _ _ _ _ _ | exact Kd.R_nil _ _ _ _ _⟩, ⟨by repeat (first | (with_reducible first | exact HB.out | apply yA | apply yN | apply yD) | exact HB.out)⟩⟩
 case round =>
  clear H'
  try clear c1
  try clear p2
  obtain ⟨x7_1, x8_1, rfl, HA, HK1, HO_7, HB⟩ := hrel
  cases gk with
  | zero => exact absurd HA.out (by simp [tacticianref02_TameRows.l0])
  | succ k1 =>
   have H := HA.out
   clear HA
   simp only [tacticianref02_TameRows.l0] at H
   have HC4 := Aside0.mk H
   clear H
   go_upto_region 3 with (fail)
   go_cut [20] (fun v20 wc => ∃ (kq : Nat) (x20_3 : Bool), v20 = .bool x20_3 ∧ Aside0 (tacticianref02_TameRows.j1 kq l0 l1 a2 x7_1 x8_1 x20_3 = some r) ∧ Aside0 (kq ≤ k1) ∧ Aside0 (Kd.S (Kd.slice 61 k61) 40 wc w.heap.size (fun _ => True) u7 x7_1) ∧ Aside0 (Below w.heap.size w wc))
   case first =>
    have H := HC4.out
    clear HC4
    by_cases c5 : x8_1 < (l1.length : Int)
    ·rw [if_pos c5] at H
     have c5b0 : decide (x8_1 < (l1.length : Int)) = true := decide_eq_true c5
     clear c5
     (first | rw [c5b0] | (simp only [i64_w, i32_w]; rw [c5b0]) | skip)
     have H' := Aside0.mk H
     clear H
     go_wp2
     go_meet
     case rel => exact ⟨_, (decide (x8_1 < a2)), (by first | rfl | (simp; done) | (simp [*]; done)), H', ⟨by have := HK1.out; first | omega | exact Nat.le_refl _⟩, ⟨by (with_reducible repeat (first | apply Kd.S_alloc | apply Kd.S_drewN | apply Kd.S_drew)); exact HO_7.out⟩, ⟨by repeat (first | (with_reducible first | exact HB.out | apply yA | apply yN | apply yD) | exact HB.out)⟩⟩
    ·rw [if_neg c5] at H
     have c5b0 : decide (x8_1 < (l1.length : Int)) = false := decide_eq_false c5
     clear c5
     (first | rw [c5b0] | (simp only [i64_w, i32_w]; rw [c5b0]) | skip)
     have H' := Aside0.mk H
     clear H
     go_wp2
     go_meet
     case rel => exact ⟨_, (false), (by first | rfl | (simp; done) | (simp [*]; done)), H', ⟨by have := HK1.out; first | omega | exact Nat.le_refl _⟩, ⟨by (with_reducible repeat (first | apply Kd.S_alloc | apply Kd.S_drewN | apply Kd.S_drew)); exact HO_7.out⟩, ⟨by repeat (first | (with_reducible first | exact HB.out | apply yA | apply yN | apply yD) | exact HB.out)⟩⟩
   case rest =>
    clear HC4
    try clear c1
    try clear p2
    try clear c5
    try clear c5b0
    try clear p2
    obtain ⟨kq, x20_3, rfl, HA, HJ3, HO_7, HB⟩ := hcut
    cases kq with
    | zero => exact absurd HA.out (by simp [tacticianref02_TameRows.j1])
    | succ kj3 =>
     have H := HA.out
     clear HA
     simp only [tacticianref02_TameRows.j1] at H
     by_cases c6 : x20_3 = true
     ·subst c6
      have H1 : (tacticianref02_TameRows.l1 kj3 l0 l1 a2 x7_1 x8_1 ([] : List (S61)) 0) = some r := by rw [if_pos rfl] at H; exact H
      clear H
      have H := H1
      clear H1
      have H' := Aside0.mk H
      clear H
      go_wp2
      go_loopg [9, 10] kj3 (fun kq v9 v10 w' => ∃ (x9_3 : List (S61)) (x10_3 : Int), v10 = .int .i64 x10_3 ∧ Aside0 (tacticianref02_TameRows.l1 kq l0 l1 a2 x7_1 x8_1 x9_3 x10_3 = some r) ∧ Aside0 (kq ≤ kj3) ∧ Aside0 (Kd.S (Kd.slice 61 k61) 40 w' w.heap.size (fun k_ => some k_ ≠ (v9 : Value).ownBlock) u7 x7_1) ∧ Aside0 (Kd.R k61 61 w' w.heap.size (fun _ => True) v9 x9_3) ∧ Aside0 (Below w.heap.size w w'))
      case atStart => exact ⟨(([] : List (S61))), (0), (by first | rfl | (simp; done) | (simp [*]; done)), H', ⟨Nat.le_refl _⟩, ⟨by (with_reducible repeat (first | apply Kd.S_alloc | apply Kd.S_drewN | apply Kd.S_drew)); exact Kd.S_mono HO_7.out (fun _ hk => (by simp [Value.ownBlock]))⟩, ⟨by first | exact Kd.R_nil _ _ _ _ _ | exact Kd.N_nil _ _ _ _ _ | exact Kd.V_nil _ _ _ _ _ | exact Kd.Q_nil _ _ _ _ _ | exact Kd.S_nil _ _ _ _ _⟩, ⟨by repeat (first | (with_reducible first | exact HB.out | apply yA | apply yN | apply yD) | exact HB.out)⟩⟩
      case round =>
       clear H'
       try clear c1
       try clear p2
       try clear c5
       try clear c5b0
       try clear c6
       try clear p2
       obtain ⟨x9_3, x10_3, rfl, HA, HK3, HO_7, HO_9, HB⟩ := hrel
       cases gk with
       | zero => exact absurd HA.out (by simp [tacticianref02_TameRows.l1])
       | succ k3 =>
        have H := HA.out
        clear HA
        simp only [tacticianref02_TameRows.l1] at H
        by_cases c7 : x10_3 < (l0.length : Int)
        ·rw [if_pos c7] at H
         have c7b0 : decide (x10_3 < (l0.length : Int)) = true := decide_eq_true c7
         clear c7
         by_cases c8 : 0 ≤ x8_1
         ·rw [if_pos c8] at H
          have c8b0 : decide (0 ≤ x8_1) = true := decide_eq_true c8
          clear c8
          by_cases c9 : x8_1 < (l1.length : Int)
          ·rw [if_pos c9] at H
           have c9b0 : decide (x8_1 < (l1.length : Int)) = true := decide_eq_true c9
           clear c9
           by_cases c10 : ((rd_L3 l1 x8_1).length : Int) > 0
           ·rw [if_pos c10] at H
            have c10b0 : decide (0 < ((rd_L3 l1 x8_1).length : Int)) = true := decide_eq_true c10
            have c10b1 : decide (0 < (rd_L3 l1 x8_1).length) = true := decide_eq_true (by omega)
            clear c10
            by_cases c11 : ((rd_L3 l1 x8_1).length : Int) = 0
            ·rw [if_pos c11] at H
             exact absurd H (by simp)
            ·rw [if_neg c11] at H
             have c11b0 : (((rd_L3 l1 x8_1).length : Int) == 0) = false := beq_eq_false_iff_ne.mpr c11
             have c11b1 : (((rd_L3 l1 x8_1).length : Int) != 0) = true := bne_iff_ne.mpr c11
             have c11b2 : ¬ ((rd_L3 l1 x8_1) = []) := fun h_ => c11 (by rw [h_]; rfl)
             obtain ⟨ji12, hji12⟩ : ∃ j_ : Int, (Int.tmod x10_3 ((rd_L3 l1 x8_1).length : Int)) = j_ := ⟨_, rfl⟩
             replace H : (if 0 ≤ (ji12) then (if (ji12) < ((rd_L3 l1 x8_1).length : Int) then (if 0 ≤ x10_3 then ((tacticianref01_TameAs.f k3 ((rd_T61 (rd_L3 l1 x8_1) (ji12)).f0) (wrap64 (((rd_T61 (rd_L3 l1 x8_1) (ji12)).f1) + (wrap64 (Int.tdiv x10_3 ((rd_L3 l1 x8_1).length : Int))))) ((rd_T61 (rd_L3 l1 x8_1) (ji12)).f2) ((rd_T88 l0 x10_3).f0) ((rd_T88 l0 x10_3).f1)).bind fun bt507 => (if x9_3.length < 4398046511104 then (tacticianref02_TameRows.l1 k3 l0 l1 a2 x7_1 x8_1 (x9_3 ++ [(⟨bt507.1, bt507.2.1, bt507.2.2⟩ : S61)]) (wrap64 (x10_3 + 1))) else (none))) else (none)) else (none)) else (none)) = some r := by first | (rw [hji12] at H; exact H) | (simp only [hji12] at H ⊢; exact H)
             by_cases c13 : 0 ≤ (ji12)
             ·rw [if_pos c13] at H
              have c13b0 : decide (0 ≤ (ji12)) = true := decide_eq_true c13
              clear c13
              by_cases c14 : (ji12) < ((rd_L3 l1 x8_1).length : Int)
              ·rw [if_pos c14] at H
               have c14b0 : decide ((ji12) < ((rd_L3 l1 x8_1).length : Int)) = true := decide_eq_true c14
               clear c14
               by_cases c15 : 0 ≤ x10_3
               ·rw [if_pos c15] at H
                have c15b0 : decide (0 ≤ x10_3) = true := decide_eq_true c15
                clear c15
                replace H := Option.bind_eq_some_iff.mp H
                obtain ⟨⟨t507, t508, t509⟩, A160, H⟩ := H
                replace H : (if x9_3.length < 4398046511104 then (tacticianref02_TameRows.l1 k3 l0 l1 a2 x7_1 x8_1 (x9_3 ++ [(⟨t507, t508, t509⟩ : S61)]) (wrap64 (x10_3 + 1))) else (none)) = some r := H
                have A16 := Aside0.mk A160
                clear A160
                by_cases c17 : x9_3.length < 4398046511104
                ·rw [if_pos c17] at H
                 have LMc17 := Aside0.mk c17
                 clear c17
                 obtain ⟨y510, hy510⟩ : ∃ y_ : List (S61), y_ = (x9_3 ++ [(⟨t507, t508, t509⟩ : S61)]) := ⟨_, rfl⟩
                 replace H : (tacticianref02_TameRows.l1 k3 l0 l1 a2 x7_1 x8_1 y510 (wrap64 (x10_3 + 1))) = some r := by first | (rw [hy510]; with_reducible exact H) | (have H2_ := (Option.bind_some _ _).symm.trans H; rw [hy510]; with_reducible exact H2_) | (have H2_ := (Option.bind_some _ _).symm.trans H; with_reducible exact H2_) | with_reducible exact H | (rw [hy510]; exact H) | exact H
                 have Ny510 := Aside0.mk hy510
                 clear hy510
                 have H' := Aside0.mk H
                 clear H
                 try go_wp2_with (first | ((with_reducible refine gate_dst (N := 11) rfl ?_); refine box_event ?hg (N := 11) ?hd (cs := #[.int .i64 0, .int .i64 0, .string (⟨#[]⟩ : ByteArray)]) (t := 61) ?hr ?_; (case hd => rfl); (case hg => rfl); (case hr => first | (go_simp; done) | (go_simp; rfl)); intro gb500 hg w18 hbox hb; have n0_ := Aside0.mk (Kd.S_below (Kd.S_elderB (by (with_reducible repeat (first | apply Kd.S_alloc | apply Kd.S_drewN | apply Kd.S_drew)); exact HO_7.out) gb500 (Nat.le_of_eq hg.symm)) hb); have n1_ := Aside0.mk (Kd.R_below (Kd.R_elderB (by (with_reducible repeat (first | apply Kd.R_alloc | apply Kd.R_drewN | apply Kd.R_drew)); exact HO_9.out) gb500 (Nat.le_of_eq hg.symm)) hb); have n2_ := Aside0.mk (below_step (by repeat (first | (with_reducible first | exact HB.out | apply yA | apply yN | apply yD) | exact HB.out)) hb); have n3_ := Aside0.mk (hbox); have n4_ := Aside0.mk ((by rw [hg]; exact (below_size (by repeat (first | (with_reducible first | exact HB.out | apply yA | apply yN | apply yD) | exact HB.out))) : w.heap.size ≤ gb500)); have n5_ := Aside0.mk ((by rw [hg]; exact (below_size (by repeat (first | (with_reducible first | exact HB.out | apply yA | apply yN | apply yD) | exact HB.out))) : w.heap.size ≤ gb500)); clear HO_7; clear HO_9; clear HB; have HO_7 := n0_; have HO_9 := n1_; have HB := n2_; have BK500 := n3_; have GW500 := n4_; have GE500 := n5_; clear n0_ n1_ n2_ n3_ n4_ n5_; clear hb hbox hg; have hcz19_0 : w18.cell? ⟨gb500, 0, none⟩ = some (.int .i64 0) := (blk_cell BK500.out 0).trans rfl; have hcz19_1 : w18.cell? ⟨gb500, 1, none⟩ = some (.int .i64 0) := (blk_cell BK500.out 1).trans rfl; have hcz19_2 : w18.cell? ⟨gb500, 2, none⟩ = some (.string (⟨#[]⟩ : ByteArray)) := (blk_cell BK500.out 2).trans rfl; have hfz19_0 := blk_frozen BK500.out 0; have hfz19_1 := blk_frozen BK500.out 1; have hfz19_2 := blk_frozen BK500.out 2; have p501 : 0 ≤ (x8_1 : Int) := of_decide_eq_true (by first | (with_reducible assumption) | assumption); have q501 : x8_1 < (l1.length : Int) := of_decide_eq_true (by first | (with_reducible assumption) | assumption); obtain ⟨ad501, A501_0, c501_0, e501, hx501_0, hl501_0, hi501_0⟩ := at_L3 HR1.out x8_1 p501 q501; cases e501; have hn501_0 : ad501.block ≠ gb500 := Nat.ne_of_lt (Nat.lt_of_lt_of_le (by have := World.block_lt_of_cell? _ _ hx501_0; first | rwa [add_block] at this | exact this) GW500.out); have hn501_1 : ad501.block ≠ gb500 := Nat.ne_of_lt (Nat.lt_of_lt_of_le (by have := World.block_lt_of_cell? _ _ hx501_0; first | rwa [add_block] at this | exact this) GW500.out); have hn501_2 : ad501.block ≠ gb500 := Nat.ne_of_lt (Nat.lt_of_lt_of_le (by have := World.block_lt_of_cell? _ _ hx501_0; first | rwa [add_block] at this | exact this) GW500.out); replace hx501_0 := (HB.out.cell (World.block_lt_of_cell? w _ hx501_0)).trans hx501_0; have HR501_0 := Aside0.mk hi501_0; have HC501_0 := Aside0.mk hl501_0; clear hi501_0 hl501_0; replace hx501_0 := (cell_far (p := ⟨gb500, 0, none⟩) (by first | (rw [add_block]; exact hn501_0) | (show (Addr.add _ _).block ≠ _; rw [add_block]; exact hn501_0) | exact hn501_0) (.int .i64 0)).trans hx501_0; replace hx501_0 := (cell_far (p := ⟨gb500, 1, none⟩) (by first | (rw [add_block]; exact hn501_1) | (show (Addr.add _ _).block ≠ _; rw [add_block]; exact hn501_1) | exact hn501_1) (.int .i64 0)).trans hx501_0; replace hx501_0 := (cell_far (p := ⟨gb500, 2, none⟩) (by first | (rw [add_block]; exact hn501_2) | (show (Addr.add _ _).block ≠ _; rw [add_block]; exact hn501_2) | exact hn501_2) (.string (⟨#[]⟩ : ByteArray))).trans hx501_0; clear hn501_0; clear hn501_1; clear hn501_2; replace p501 := eq_true p501; replace q501 := eq_true q501))
                 have n0_ : Aside0 (Kd.S (Kd.slice 61 k61) 40 (((w18.setCell ⟨gb500, 0, none⟩ (.int .i64 0)).setCell ⟨gb500, 1, none⟩ (.int .i64 0)).setCell ⟨gb500, 2, none⟩ (.string (⟨#[]⟩ : ByteArray))) w.heap.size (fun k_ => some k_ ≠ (u9 : Value).ownBlock ∧ k_ ≠ gb500) u7 x7_1) := ⟨by (with_reducible repeat (first | apply Kd.S_alloc | apply Kd.S_drewN | apply Kd.S_drew)); exact Kd.S_mono (Kd.S_far (p := ⟨gb500, 2, none⟩) (Kd.S_far (p := ⟨gb500, 1, none⟩) (Kd.S_far (p := ⟨gb500, 0, none⟩) (Kd.S_mono HO_7.out (fun k_ hk => (⟨hk, hk.2⟩ : _ ∧ k_ ≠ gb500))) (fun _ hk => hk.2) (.int .i64 0)) (fun _ hk => hk.2) (.int .i64 0)) (fun _ hk => hk.2) (.string (⟨#[]⟩ : ByteArray))) (fun _ hk => ⟨hk.1.1, hk.1.2⟩)⟩
                 have n1_ : Aside0 (Kd.R k61 61 (((w18.setCell ⟨gb500, 0, none⟩ (.int .i64 0)).setCell ⟨gb500, 1, none⟩ (.int .i64 0)).setCell ⟨gb500, 2, none⟩ (.string (⟨#[]⟩ : ByteArray))) w.heap.size (fun k_ => k_ ≠ gb500) u9 x9_3) := ⟨by (with_reducible repeat (first | apply Kd.R_alloc | apply Kd.R_drewN | apply Kd.R_drew)); exact Kd.R_mono (Kd.R_far (p := ⟨gb500, 2, none⟩) (Kd.R_far (p := ⟨gb500, 1, none⟩) (Kd.R_far (p := ⟨gb500, 0, none⟩) (Kd.R_mono HO_9.out (fun k_ hk => (⟨hk, hk.2⟩ : _ ∧ k_ ≠ gb500))) (fun _ hk => hk.2) (.int .i64 0)) (fun _ hk => hk.2) (.int .i64 0)) (fun _ hk => hk.2) (.string (⟨#[]⟩ : ByteArray))) (fun _ hk => hk.1.2)⟩
                 have n2_ : Aside0 ((((w18.setCell ⟨gb500, 0, none⟩ (.int .i64 0)).setCell ⟨gb500, 1, none⟩ (.int .i64 0)).setCell ⟨gb500, 2, none⟩ (.string (⟨#[]⟩ : ByteArray))).heap[gb500]? = some (.cells #[.int .i64 0, .int .i64 0, .string (⟨#[]⟩ : ByteArray)] 61 (0, 0))) := ⟨by (with_reducible repeat (first | refine zN ?_ _ | refine zD ?_ | refine zA ?_ _)); refine blk_put (cs := #[.int .i64 0, .int .i64 0, .string (⟨#[]⟩ : ByteArray)]) ?_ 2 _ rfl; (with_reducible repeat (first | refine zN ?_ _ | refine zD ?_ | refine zA ?_ _)); refine blk_put (cs := #[.int .i64 0, .int .i64 0, .string (⟨#[]⟩ : ByteArray)]) ?_ 1 _ rfl; (with_reducible repeat (first | refine zN ?_ _ | refine zD ?_ | refine zA ?_ _)); refine blk_put (cs := #[.int .i64 0, .int .i64 0, .string (⟨#[]⟩ : ByteArray)]) ?_ 0 _ rfl; (with_reducible repeat (first | refine zN ?_ _ | refine zD ?_ | refine zA ?_ _)); exact BK500.out⟩
                 have n3_ : Aside0 (Below w.heap.size w (((w18.setCell ⟨gb500, 0, none⟩ (.int .i64 0)).setCell ⟨gb500, 1, none⟩ (.int .i64 0)).setCell ⟨gb500, 2, none⟩ (.string (⟨#[]⟩ : ByteArray)))) := ⟨by repeat (first | (with_reducible first | exact HB.out | apply yA | apply yN | apply yD | refine below_set ?_ GE500.out) | exact HB.out)⟩
                 (try clear HO_7)
                 (try clear HO_9)
                 (try clear BK500)
                 (try clear HB)
                 generalize (((w18.setCell ⟨gb500, 0, none⟩ (.int .i64 0)).setCell ⟨gb500, 1, none⟩ (.int .i64 0)).setCell ⟨gb500, 2, none⟩ (.string (⟨#[]⟩ : ByteArray))) = w20 at n0_ n1_ n2_ n3_ ⊢
                 have HO_7 := n0_
                 have HO_9 := n1_
                 have BK500 := n2_
                 have HB := n3_
                 clear n0_ n1_ n2_ n3_
                 have n0_ := Aside0.mk (Kd.S_drew HO_7.out)
                 have n1_ := Aside0.mk (Kd.R_drew HO_9.out)
                 have n2_ := Aside0.mk (blk_drew BK500.out)
                 have n3_ := Aside0.mk (below_drew1 HB.out)
                 clear HO_7
                 clear HO_9
                 clear BK500
                 clear HB
                 have HO_7 := n0_
                 have HO_9 := n1_
                 have BK500 := n2_
                 have HB := n3_
                 clear n0_ n1_ n2_ n3_
                 have p502 : 0 ≤ (x8_1 : Int) := of_decide_eq_true (by first | (with_reducible assumption) | assumption)
                 have q502 : x8_1 < (l1.length : Int) := of_decide_eq_true (by first | (with_reducible assumption) | assumption)
                 obtain ⟨ad502, A502_0, c502_0, e502, hx502_0, hl502_0, hi502_0⟩ := at_L3 HR1.out x8_1 p502 q502
                 have hw502_0 := hx502_0
                 obtain rfl : ad501 = ad502 := (by injection e502)
                 replace hx502_0 := (HB.out.cell (World.block_lt_of_cell? w _ hx502_0)).trans hx502_0
                 have HR502_0 := Aside0.mk hi502_0
                 have HC502_0 := Aside0.mk hl502_0
                 clear hi502_0 hl502_0
                 replace p502 := eq_true p502
                 replace q502 := eq_true q502
                 have p503 : 0 ≤ (x8_1 : Int) := of_decide_eq_true (by first | (with_reducible assumption) | assumption)
                 have q503 : x8_1 < (l1.length : Int) := of_decide_eq_true (by first | (with_reducible assumption) | assumption)
                 obtain ⟨ad503, A503_0, c503_0, e503, hx503_0, hl503_0, hi503_0⟩ := at_L3 HR1.out x8_1 p503 q503
                 have hw503_0 := hx503_0
                 obtain rfl : ad501 = ad503 := (by injection e503)
                 replace hx503_0 := (HB.out.cell (World.block_lt_of_cell? w _ hx503_0)).trans hx503_0
                 have HR503_0 := Aside0.mk hi503_0
                 have HC503_0 := Aside0.mk hl503_0
                 clear hi503_0 hl503_0
                 replace p503 := eq_true p503
                 replace q503 := eq_true q503
                 have ea_ := Option.some.inj (hx502_0.symm.trans hx503_0)
                 injection ea_ with ea_ en_ ec_
                 subst ea_
                 subst ec_
                 clear en_
                 have p504 : 0 ≤ ((ji12) : Int) := of_decide_eq_true (by first | (with_reducible assumption) | assumption)
                 have q504 : (ji12) < ((rd_L3 l1 x8_1).length : Int) := of_decide_eq_true (by first | (with_reducible assumption) | assumption)
                 obtain ⟨ad504, e504, hx504_0, hx504_1, hx504_2⟩ := at_T61 HR502_0.out (ji12) p504 q504
                 have hw504_2 := hx504_2
                 have hw504_1 := hx504_1
                 have hw504_0 := hx504_0
                 cases e504
                 replace hx504_0 := (HB.out.cell (World.block_lt_of_cell? w _ hx504_0)).trans hx504_0
                 replace hx504_1 := (HB.out.cell (World.block_lt_of_cell? w _ hx504_1)).trans hx504_1
                 replace hx504_2 := (HB.out.cell (World.block_lt_of_cell? w _ hx504_2)).trans hx504_2
                 replace p504 := eq_true p504
                 replace q504 := eq_true q504
                 refine start_ (n := 14) (S := fun w' => w'.cell? (ad501.add (x8_1).toNat) = some (.slice (some ad504) (rd_L3 l1 x8_1).length c502_0) ∧ w'.cell? (ad501.add (x8_1).toNat) = some (.slice (some ad504) (rd_L3 l1 x8_1).length c502_0) ∧ w'.cell? (ad504.add (((ji12)).toNat * 3)) = some (.int .i64 ((rd_T61 (rd_L3 l1 x8_1) (ji12)).f0)) ∧ w'.cell? ⟨(ad504.add (((ji12)).toNat * 3)).block, (ad504.add (((ji12)).toNat * 3)).off + 1, none⟩ = some (.int .i64 ((rd_T61 (rd_L3 l1 x8_1) (ji12)).f1)) ∧ w'.cell? ⟨(ad504.add (((ji12)).toNat * 3)).block, (ad504.add (((ji12)).toNat * 3)).off + 2, none⟩ = some (.string ((rd_T61 (rd_L3 l1 x8_1) (ji12)).f2))) (ds := []) #[false, false, false, false, false, false, false, false, false, false, false, false, false, false] (by kernel_rfl) rfl rfl ⟨((HB.out.cell (World.block_lt_of_cell? w _ hw502_0)).trans hw502_0), ((HB.out.cell (World.block_lt_of_cell? w _ hw503_0)).trans hw503_0), ((HB.out.cell (World.block_lt_of_cell? w _ hw504_0)).trans hw504_0), ((HB.out.cell (World.block_lt_of_cell? w _ hw504_1)).trans hw504_1), ((HB.out.cell (World.block_lt_of_cell? w _ hw504_2)).trans hw504_2)⟩ (fun hHeld => ?_); refine with_tabW tacticianref02_TameRows.tab11 tacticianref02_TameRows.bits11 (fun HT_ HW_ => ?_)
                 generalize w20.drew = w21 at HO_7 HO_9 BK500 HB HR502_0 HR503_0 hx502_0 hx503_0 hx504_0 hx504_1 hx504_2 hHeld ⊢
                 refine pure_ (i := 0) (N := some 36) (v := ?_) (a' := ?_) #[true, false, false, false, false, false, false, false, false, false, false, false, false, false] rfl rfl (any_of HT_.out (by kernel_rfl)) (fun _ _ _ h => h) (Or.inl ⟨by rfl, ?_⟩) ?_ ?_
                 rotate_left
                 ·intro w'
                  go_simp
                  with_reducible rfl
                 rotate_left
                 ·simp only [Act.put, List.setIfInBounds_toArray, List.set_cons_zero, List.set_cons_succ, i64_w, i32_w]
                  rfl
                 refine pure_ (i := 1) (N := some 37) (v := ?_) (a' := ?_) #[true, true, false, false, false, false, false, false, false, false, false, false, false, false] rfl rfl (any_of HT_.out (by kernel_rfl)) (fun _ _ _ h => h) (Or.inl ⟨by rfl, ?_⟩) ?_ ?_
                 rotate_left
                 ·intro w'
                  go_simp
                  with_reducible rfl
                 rotate_left
                 ·simp only [Act.put, List.setIfInBounds_toArray, List.set_cons_zero, List.set_cons_succ, i64_w, i32_w]
                  rfl
                 refine pure_ (i := 2) (N := some 38) (v := ?_) (a' := ?_) #[true, true, true, false, false, false, false, false, false, false, false, false, false, false] rfl rfl (any_of HT_.out (by kernel_rfl)) (fun _ _ _ h => h) (Or.inl ⟨by rfl, ?_⟩) ?_ ?_
                 rotate_left
                 ·intro w'
                  go_simp
                  with_reducible rfl
                 rotate_left
                 ·simp only [Act.put, List.setIfInBounds_toArray, List.set_cons_zero, List.set_cons_succ, i64_w, i32_w]
                  rfl
                 refine pure_ (i := 4) (N := some 40) (v := ?_) (a' := ?_) #[true, true, true, false, true, false, false, false, false, false, false, false, false, false] rfl rfl (any_of HT_.out (by kernel_rfl)) (fun _ _ _ h => h) (Or.inl ⟨by rfl, ?_⟩) ?_ ?_
                 rotate_left
                 ·intro w'
                  go_simp
                  with_reducible rfl
                 rotate_left
                 ·simp only [Act.put, List.setIfInBounds_toArray, List.set_cons_zero, List.set_cons_succ, i64_w, i32_w]
                  rfl
                 refine pure_ (i := 5) (N := some 41) (v := ?_) (a' := ?_) #[true, true, true, false, true, true, false, false, false, false, false, false, false, false] rfl rfl (any_of HT_.out (by kernel_rfl)) (fun _ _ _ h => h) (Or.inl ⟨by rfl, ?_⟩) ?_ ?_
                 rotate_left
                 ·intro w'
                  go_simp
                  with_reducible rfl
                 rotate_left
                 ·simp only [Act.put, List.setIfInBounds_toArray, List.set_cons_zero, List.set_cons_succ, i64_w, i32_w]
                  rfl
                 refine pure_ (i := 6) (N := some 42) (v := ?_) (a' := ?_) #[true, true, true, false, true, true, true, false, false, false, false, false, false, false] rfl rfl (any_of HT_.out (by kernel_rfl)) (fun _ _ _ h => h) (Or.inl ⟨by rfl, ?_⟩) ?_ ?_
                 rotate_left
                 ·intro w'
                  go_simp
                  with_reducible rfl
                 rotate_left
                 ·simp only [Act.put, List.setIfInBounds_toArray, List.set_cons_zero, List.set_cons_succ, i64_w, i32_w]
                  rfl
                 refine pure_ (i := 7) (N := some 43) (v := ?_) (a' := ?_) #[true, true, true, false, true, true, true, true, false, false, false, false, false, false] rfl rfl (any_of HT_.out (by kernel_rfl)) (fun _ _ _ h => h) (Or.inl ⟨by rfl, ?_⟩) ?_ ?_
                 rotate_left
                 ·intro w'
                  go_simp
                  with_reducible rfl
                 rotate_left
                 ·simp only [Act.put, List.setIfInBounds_toArray, List.set_cons_zero, List.set_cons_succ, i64_w, i32_w]
                  rfl
                 refine take_ (i := 3) (N := some 39) (v := ?_) (a' := ?_) #[true, true, true, true, true, true, true, true, false, false, false, false, false, false] rfl rfl (take_ofW HT_.out HW_.out (by kernel_rfl)) (fun _ _ _ h => h) (Or.inl ⟨by rfl, ?_⟩) hHeld ?_ ?_
                 rotate_left
                 ·rintro w' ⟨s0, s1, s2, s3, s4⟩
                  go_simp
                  with_reducible rfl
                 rotate_left
                 ·simp only [Act.put, List.setIfInBounds_toArray, List.set_cons_zero, List.set_cons_succ, i64_w, i32_w]
                  rfl
                 refine take_ (i := 8) (N := some 44) (v := ?_) (a' := ?_) #[true, true, true, true, true, true, true, true, true, false, false, false, false, false] rfl rfl (take_ofW HT_.out HW_.out (by kernel_rfl)) (fun _ _ _ h => h) (Or.inl ⟨by rfl, ?_⟩) hHeld ?_ ?_
                 rotate_left
                 ·rintro w' ⟨s0, s1, s2, s3, s4⟩
                  go_simp
                  with_reducible rfl
                 rotate_left
                 ·simp only [Act.put, List.setIfInBounds_toArray, List.set_cons_zero, List.set_cons_succ, i64_w, i32_w]
                  rfl
                 refine pure_ (i := 9) (N := some 45) (v := ?_) (a' := ?_) #[true, true, true, true, true, true, true, true, true, true, false, false, false, false] rfl rfl (any_of HT_.out (by kernel_rfl)) (fun _ _ _ h => h) (Or.inl ⟨by rfl, ?_⟩) ?_ ?_
                 rotate_left
                 ·intro w'
                  go_simp
                  with_reducible rfl
                 rotate_left
                 ·simp only [Act.put, List.setIfInBounds_toArray, List.set_cons_zero, List.set_cons_succ, i64_w, i32_w]
                  rfl
                 refine pure_ (i := 10) (N := some 46) (v := ?_) (a' := ?_) #[true, true, true, true, true, true, true, true, true, true, true, false, false, false] rfl rfl (any_of HT_.out (by kernel_rfl)) (fun _ _ _ h => h) (Or.inl ⟨by rfl, ?_⟩) ?_ ?_
                 rotate_left
                 ·intro w'
                  go_simp
                  with_reducible rfl
                 rotate_left
                 ·simp only [Act.put, List.setIfInBounds_toArray, List.set_cons_zero, List.set_cons_succ, i64_w, i32_w]
                  rfl
                 refine pure_ (i := 11) (N := some 47) (v := ?_) (a' := ?_) #[true, true, true, true, true, true, true, true, true, true, true, true, false, false] rfl rfl (any_of HT_.out (by kernel_rfl)) (fun _ _ _ h => h) (Or.inl ⟨by rfl, ?_⟩) ?_ ?_
                 rotate_left
                 ·intro w'
                  go_simp
                  with_reducible rfl
                 rotate_left
                 ·simp only [Act.put, List.setIfInBounds_toArray, List.set_cons_zero, List.set_cons_succ, i64_w, i32_w]
                  rfl
                 refine take_ (i := 12) (N := some 48) (v := ?_) (a' := ?_) #[true, true, true, true, true, true, true, true, true, true, true, true, true, false] rfl rfl (take_ofW HT_.out HW_.out (by kernel_rfl)) (fun _ _ _ h => h) (Or.inl ⟨by rfl, ?_⟩) hHeld ?_ ?_
                 rotate_left
                 ·rintro w' ⟨s0, s1, s2, s3, s4⟩
                  go_simp
                  with_reducible rfl
                 rotate_left
                 ·simp only [Act.put, List.setIfInBounds_toArray, List.set_cons_zero, List.set_cons_succ, i64_w, i32_w]
                  rfl
                 refine one_ (i := 13) (N := none) #[true, true, true, true, true, true, true, true, true, true, true, true, true, true] rfl rfl (one_of HT_.out (by kernel_rfl)) (by decide) (fun K hK => ?_)
                 have hs22 : w21.cell? ⟨gb500, 0, none⟩ = some (.int .i64 0) := (blk_cell BK500.out 0).trans rfl
                 have hfs22 := blk_frozen BK500.out 0
                 have hs23 : w21.cell? ⟨gb500, 1, none⟩ = some (.int .i64 0) := (blk_cell BK500.out 1).trans rfl
                 have hfs23 := blk_frozen BK500.out 1
                 have hs24 : w21.cell? ⟨gb500, 2, none⟩ = some (.string (⟨#[]⟩ : ByteArray)) := (blk_cell BK500.out 2).trans rfl
                 have hfs24 := blk_frozen BK500.out 2
                 refine skip_ (w1 := ?_) (by rfl) rfl ?_ ?_
                 rotate_left
                 ·go_simp
                  rfl
                 refine hK.out _ _ ⟨((cell_far (p := ⟨gb500, _, none⟩) (by first | exact Nat.ne_of_lt (Nat.lt_of_lt_of_le (by have := World.block_lt_of_cell? _ _ hw502_0; first | rwa [add_block] at this | exact this) GW500.out) | (rw [add_block]; exact Nat.ne_of_lt (Nat.lt_of_lt_of_le (by have := World.block_lt_of_cell? _ _ hw502_0; first | rwa [add_block] at this | exact this) GW500.out)) | (show (Addr.add _ _).block ≠ _; rw [add_block]; exact Nat.ne_of_lt (Nat.lt_of_lt_of_le (by have := World.block_lt_of_cell? _ _ hw502_0; first | rwa [add_block] at this | exact this) GW500.out)) | (dsimp only; exact Nat.ne_of_lt (Nat.lt_of_lt_of_le (by have := World.block_lt_of_cell? _ _ hw502_0; first | rwa [add_block] at this | exact this) GW500.out))) _).trans (((cell_far (p := ⟨gb500, _, none⟩) (by first | exact Nat.ne_of_lt (Nat.lt_of_lt_of_le (by have := World.block_lt_of_cell? _ _ hw502_0; first | rwa [add_block] at this | exact this) GW500.out) | (rw [add_block]; exact Nat.ne_of_lt (Nat.lt_of_lt_of_le (by have := World.block_lt_of_cell? _ _ hw502_0; first | rwa [add_block] at this | exact this) GW500.out)) | (show (Addr.add _ _).block ≠ _; rw [add_block]; exact Nat.ne_of_lt (Nat.lt_of_lt_of_le (by have := World.block_lt_of_cell? _ _ hw502_0; first | rwa [add_block] at this | exact this) GW500.out)) | (dsimp only; exact Nat.ne_of_lt (Nat.lt_of_lt_of_le (by have := World.block_lt_of_cell? _ _ hw502_0; first | rwa [add_block] at this | exact this) GW500.out))) _).trans (((cell_far (p := ⟨gb500, _, none⟩) (by first | exact Nat.ne_of_lt (Nat.lt_of_lt_of_le (by have := World.block_lt_of_cell? _ _ hw502_0; first | rwa [add_block] at this | exact this) GW500.out) | (rw [add_block]; exact Nat.ne_of_lt (Nat.lt_of_lt_of_le (by have := World.block_lt_of_cell? _ _ hw502_0; first | rwa [add_block] at this | exact this) GW500.out)) | (show (Addr.add _ _).block ≠ _; rw [add_block]; exact Nat.ne_of_lt (Nat.lt_of_lt_of_le (by have := World.block_lt_of_cell? _ _ hw502_0; first | rwa [add_block] at this | exact this) GW500.out)) | (dsimp only; exact Nat.ne_of_lt (Nat.lt_of_lt_of_le (by have := World.block_lt_of_cell? _ _ hw502_0; first | rwa [add_block] at this | exact this) GW500.out))) _).trans (hHeld.1)))))), ((cell_far (p := ⟨gb500, _, none⟩) (by first | exact Nat.ne_of_lt (Nat.lt_of_lt_of_le (by have := World.block_lt_of_cell? _ _ hw503_0; first | rwa [add_block] at this | exact this) GW500.out) | (rw [add_block]; exact Nat.ne_of_lt (Nat.lt_of_lt_of_le (by have := World.block_lt_of_cell? _ _ hw503_0; first | rwa [add_block] at this | exact this) GW500.out)) | (show (Addr.add _ _).block ≠ _; rw [add_block]; exact Nat.ne_of_lt (Nat.lt_of_lt_of_le (by have := World.block_lt_of_cell? _ _ hw503_0; first | rwa [add_block] at this | exact this) GW500.out)) | (dsimp only; exact Nat.ne_of_lt (Nat.lt_of_lt_of_le (by have := World.block_lt_of_cell? _ _ hw503_0; first | rwa [add_block] at this | exact this) GW500.out))) _).trans (((cell_far (p := ⟨gb500, _, none⟩) (by first | exact Nat.ne_of_lt (Nat.lt_of_lt_of_le (by have := World.block_lt_of_cell? _ _ hw503_0; first | rwa [add_block] at this | exact this) GW500.out) | (rw [add_block]; exact Nat.ne_of_lt (Nat.lt_of_lt_of_le (by have := World.block_lt_of_cell? _ _ hw503_0; first | rwa [add_block] at this | exact this) GW500.out)) | (show (Addr.add _ _).block ≠ _; rw [add_block]; exact Nat.ne_of_lt (Nat.lt_of_lt_of_le (by have := World.block_lt_of_cell? _ _ hw503_0; first | rwa [add_block] at this | exact this) GW500.out)) | (dsimp only; exact Nat.ne_of_lt (Nat.lt_of_lt_of_le (by have := World.block_lt_of_cell? _ _ hw503_0; first | rwa [add_block] at this | exact this) GW500.out))) _).trans (((cell_far (p := ⟨gb500, _, none⟩) (by first | exact Nat.ne_of_lt (Nat.lt_of_lt_of_le (by have := World.block_lt_of_cell? _ _ hw503_0; first | rwa [add_block] at this | exact this) GW500.out) | (rw [add_block]; exact Nat.ne_of_lt (Nat.lt_of_lt_of_le (by have := World.block_lt_of_cell? _ _ hw503_0; first | rwa [add_block] at this | exact this) GW500.out)) | (show (Addr.add _ _).block ≠ _; rw [add_block]; exact Nat.ne_of_lt (Nat.lt_of_lt_of_le (by have := World.block_lt_of_cell? _ _ hw503_0; first | rwa [add_block] at this | exact this) GW500.out)) | (dsimp only; exact Nat.ne_of_lt (Nat.lt_of_lt_of_le (by have := World.block_lt_of_cell? _ _ hw503_0; first | rwa [add_block] at this | exact this) GW500.out))) _).trans (hHeld.2.1)))))), ((cell_far (p := ⟨gb500, _, none⟩) (by first | exact Nat.ne_of_lt (Nat.lt_of_lt_of_le (by have := World.block_lt_of_cell? _ _ hw504_0; first | rwa [add_block] at this | exact this) GW500.out) | (rw [add_block]; exact Nat.ne_of_lt (Nat.lt_of_lt_of_le (by have := World.block_lt_of_cell? _ _ hw504_0; first | rwa [add_block] at this | exact this) GW500.out)) | (show (Addr.add _ _).block ≠ _; rw [add_block]; exact Nat.ne_of_lt (Nat.lt_of_lt_of_le (by have := World.block_lt_of_cell? _ _ hw504_0; first | rwa [add_block] at this | exact this) GW500.out)) | (dsimp only; exact Nat.ne_of_lt (Nat.lt_of_lt_of_le (by have := World.block_lt_of_cell? _ _ hw504_0; first | rwa [add_block] at this | exact this) GW500.out))) _).trans (((cell_far (p := ⟨gb500, _, none⟩) (by first | exact Nat.ne_of_lt (Nat.lt_of_lt_of_le (by have := World.block_lt_of_cell? _ _ hw504_0; first | rwa [add_block] at this | exact this) GW500.out) | (rw [add_block]; exact Nat.ne_of_lt (Nat.lt_of_lt_of_le (by have := World.block_lt_of_cell? _ _ hw504_0; first | rwa [add_block] at this | exact this) GW500.out)) | (show (Addr.add _ _).block ≠ _; rw [add_block]; exact Nat.ne_of_lt (Nat.lt_of_lt_of_le (by have := World.block_lt_of_cell? _ _ hw504_0; first | rwa [add_block] at this | exact this) GW500.out)) | (dsimp only; exact Nat.ne_of_lt (Nat.lt_of_lt_of_le (by have := World.block_lt_of_cell? _ _ hw504_0; first | rwa [add_block] at this | exact this) GW500.out))) _).trans (((cell_far (p := ⟨gb500, _, none⟩) (by first | exact Nat.ne_of_lt (Nat.lt_of_lt_of_le (by have := World.block_lt_of_cell? _ _ hw504_0; first | rwa [add_block] at this | exact this) GW500.out) | (rw [add_block]; exact Nat.ne_of_lt (Nat.lt_of_lt_of_le (by have := World.block_lt_of_cell? _ _ hw504_0; first | rwa [add_block] at this | exact this) GW500.out)) | (show (Addr.add _ _).block ≠ _; rw [add_block]; exact Nat.ne_of_lt (Nat.lt_of_lt_of_le (by have := World.block_lt_of_cell? _ _ hw504_0; first | rwa [add_block] at this | exact this) GW500.out)) | (dsimp only; exact Nat.ne_of_lt (Nat.lt_of_lt_of_le (by have := World.block_lt_of_cell? _ _ hw504_0; first | rwa [add_block] at this | exact this) GW500.out))) _).trans (hHeld.2.2.1)))))), ((cell_far (p := ⟨gb500, _, none⟩) (by first | exact Nat.ne_of_lt (Nat.lt_of_lt_of_le (by have := World.block_lt_of_cell? _ _ hw504_1; first | rwa [add_block] at this | exact this) GW500.out) | (rw [add_block]; exact Nat.ne_of_lt (Nat.lt_of_lt_of_le (by have := World.block_lt_of_cell? _ _ hw504_1; first | rwa [add_block] at this | exact this) GW500.out)) | (show (Addr.add _ _).block ≠ _; rw [add_block]; exact Nat.ne_of_lt (Nat.lt_of_lt_of_le (by have := World.block_lt_of_cell? _ _ hw504_1; first | rwa [add_block] at this | exact this) GW500.out)) | (dsimp only; exact Nat.ne_of_lt (Nat.lt_of_lt_of_le (by have := World.block_lt_of_cell? _ _ hw504_1; first | rwa [add_block] at this | exact this) GW500.out))) _).trans (((cell_far (p := ⟨gb500, _, none⟩) (by first | exact Nat.ne_of_lt (Nat.lt_of_lt_of_le (by have := World.block_lt_of_cell? _ _ hw504_1; first | rwa [add_block] at this | exact this) GW500.out) | (rw [add_block]; exact Nat.ne_of_lt (Nat.lt_of_lt_of_le (by have := World.block_lt_of_cell? _ _ hw504_1; first | rwa [add_block] at this | exact this) GW500.out)) | (show (Addr.add _ _).block ≠ _; rw [add_block]; exact Nat.ne_of_lt (Nat.lt_of_lt_of_le (by have := World.block_lt_of_cell? _ _ hw504_1; first | rwa [add_block] at this | exact this) GW500.out)) | (dsimp only; exact Nat.ne_of_lt (Nat.lt_of_lt_of_le (by have := World.block_lt_of_cell? _ _ hw504_1; first | rwa [add_block] at this | exact this) GW500.out))) _).trans (((cell_far (p := ⟨gb500, _, none⟩) (by first | exact Nat.ne_of_lt (Nat.lt_of_lt_of_le (by have := World.block_lt_of_cell? _ _ hw504_1; first | rwa [add_block] at this | exact this) GW500.out) | (rw [add_block]; exact Nat.ne_of_lt (Nat.lt_of_lt_of_le (by have := World.block_lt_of_cell? _ _ hw504_1; first | rwa [add_block] at this | exact this) GW500.out)) | (show (Addr.add _ _).block ≠ _; rw [add_block]; exact Nat.ne_of_lt (Nat.lt_of_lt_of_le (by have := World.block_lt_of_cell? _ _ hw504_1; first | rwa [add_block] at this | exact this) GW500.out)) | (dsimp only; exact Nat.ne_of_lt (Nat.lt_of_lt_of_le (by have := World.block_lt_of_cell? _ _ hw504_1; first | rwa [add_block] at this | exact this) GW500.out))) _).trans (hHeld.2.2.2.1)))))), ((cell_far (p := ⟨gb500, _, none⟩) (by first | exact Nat.ne_of_lt (Nat.lt_of_lt_of_le (by have := World.block_lt_of_cell? _ _ hw504_2; first | rwa [add_block] at this | exact this) GW500.out) | (rw [add_block]; exact Nat.ne_of_lt (Nat.lt_of_lt_of_le (by have := World.block_lt_of_cell? _ _ hw504_2; first | rwa [add_block] at this | exact this) GW500.out)) | (show (Addr.add _ _).block ≠ _; rw [add_block]; exact Nat.ne_of_lt (Nat.lt_of_lt_of_le (by have := World.block_lt_of_cell? _ _ hw504_2; first | rwa [add_block] at this | exact this) GW500.out)) | (dsimp only; exact Nat.ne_of_lt (Nat.lt_of_lt_of_le (by have := World.block_lt_of_cell? _ _ hw504_2; first | rwa [add_block] at this | exact this) GW500.out))) _).trans (((cell_far (p := ⟨gb500, _, none⟩) (by first | exact Nat.ne_of_lt (Nat.lt_of_lt_of_le (by have := World.block_lt_of_cell? _ _ hw504_2; first | rwa [add_block] at this | exact this) GW500.out) | (rw [add_block]; exact Nat.ne_of_lt (Nat.lt_of_lt_of_le (by have := World.block_lt_of_cell? _ _ hw504_2; first | rwa [add_block] at this | exact this) GW500.out)) | (show (Addr.add _ _).block ≠ _; rw [add_block]; exact Nat.ne_of_lt (Nat.lt_of_lt_of_le (by have := World.block_lt_of_cell? _ _ hw504_2; first | rwa [add_block] at this | exact this) GW500.out)) | (dsimp only; exact Nat.ne_of_lt (Nat.lt_of_lt_of_le (by have := World.block_lt_of_cell? _ _ hw504_2; first | rwa [add_block] at this | exact this) GW500.out))) _).trans (((cell_far (p := ⟨gb500, _, none⟩) (by first | exact Nat.ne_of_lt (Nat.lt_of_lt_of_le (by have := World.block_lt_of_cell? _ _ hw504_2; first | rwa [add_block] at this | exact this) GW500.out) | (rw [add_block]; exact Nat.ne_of_lt (Nat.lt_of_lt_of_le (by have := World.block_lt_of_cell? _ _ hw504_2; first | rwa [add_block] at this | exact this) GW500.out)) | (show (Addr.add _ _).block ≠ _; rw [add_block]; exact Nat.ne_of_lt (Nat.lt_of_lt_of_le (by have := World.block_lt_of_cell? _ _ hw504_2; first | rwa [add_block] at this | exact this) GW500.out)) | (dsimp only; exact Nat.ne_of_lt (Nat.lt_of_lt_of_le (by have := World.block_lt_of_cell? _ _ hw504_2; first | rwa [add_block] at this | exact this) GW500.out))) _).trans (hHeld.2.2.2.2))))))⟩ (fun hHeld => ?_)
                 clear hK K
                 refine done_ (done_of HT_.out (by kernel_rfl)) ?_
                 try go_wp2
                 have n0_ : Aside0 (Kd.S (Kd.slice 61 k61) 40 (((w21.setCell ⟨gb500, 0, none⟩ (.int .i64 ((rd_T61 (rd_L3 l1 x8_1) (ji12)).f0))).setCell ⟨gb500, 1, none⟩ (.int .i64 ((rd_T61 (rd_L3 l1 x8_1) (ji12)).f1))).setCell ⟨gb500, 2, none⟩ (.string ((rd_T61 (rd_L3 l1 x8_1) (ji12)).f2))) w.heap.size (fun k_ => some k_ ≠ (u9 : Value).ownBlock ∧ k_ ≠ gb500) u7 x7_1) := ⟨by (with_reducible repeat (first | apply Kd.S_alloc | apply Kd.S_drewN | apply Kd.S_drew)); exact Kd.S_mono (Kd.S_far (p := ⟨gb500, 2, none⟩) (Kd.S_far (p := ⟨gb500, 1, none⟩) (Kd.S_far (p := ⟨gb500, 0, none⟩) (Kd.S_mono HO_7.out (fun k_ hk => (⟨hk, hk.2⟩ : _ ∧ k_ ≠ gb500))) (fun _ hk => hk.2) (.int .i64 ((rd_T61 (rd_L3 l1 x8_1) (ji12)).f0))) (fun _ hk => hk.2) (.int .i64 ((rd_T61 (rd_L3 l1 x8_1) (ji12)).f1))) (fun _ hk => hk.2) (.string ((rd_T61 (rd_L3 l1 x8_1) (ji12)).f2))) (fun _ hk => ⟨hk.1.1, hk.1.2⟩)⟩
                 have n1_ : Aside0 (Kd.R k61 61 (((w21.setCell ⟨gb500, 0, none⟩ (.int .i64 ((rd_T61 (rd_L3 l1 x8_1) (ji12)).f0))).setCell ⟨gb500, 1, none⟩ (.int .i64 ((rd_T61 (rd_L3 l1 x8_1) (ji12)).f1))).setCell ⟨gb500, 2, none⟩ (.string ((rd_T61 (rd_L3 l1 x8_1) (ji12)).f2))) w.heap.size (fun k_ => k_ ≠ gb500) u9 x9_3) := ⟨by (with_reducible repeat (first | apply Kd.R_alloc | apply Kd.R_drewN | apply Kd.R_drew)); exact Kd.R_mono (Kd.R_far (p := ⟨gb500, 2, none⟩) (Kd.R_far (p := ⟨gb500, 1, none⟩) (Kd.R_far (p := ⟨gb500, 0, none⟩) (Kd.R_mono HO_9.out (fun k_ hk => (⟨hk, hk⟩ : _ ∧ k_ ≠ gb500))) (fun _ hk => hk.2) (.int .i64 ((rd_T61 (rd_L3 l1 x8_1) (ji12)).f0))) (fun _ hk => hk.2) (.int .i64 ((rd_T61 (rd_L3 l1 x8_1) (ji12)).f1))) (fun _ hk => hk.2) (.string ((rd_T61 (rd_L3 l1 x8_1) (ji12)).f2))) (fun _ hk => hk.1)⟩
                 have n2_ : Aside0 ((((w21.setCell ⟨gb500, 0, none⟩ (.int .i64 ((rd_T61 (rd_L3 l1 x8_1) (ji12)).f0))).setCell ⟨gb500, 1, none⟩ (.int .i64 ((rd_T61 (rd_L3 l1 x8_1) (ji12)).f1))).setCell ⟨gb500, 2, none⟩ (.string ((rd_T61 (rd_L3 l1 x8_1) (ji12)).f2))).heap[gb500]? = some (.cells #[.int .i64 ((rd_T61 (rd_L3 l1 x8_1) (ji12)).f0), .int .i64 ((rd_T61 (rd_L3 l1 x8_1) (ji12)).f1), .string ((rd_T61 (rd_L3 l1 x8_1) (ji12)).f2)] 61 (0, 0))) := ⟨by (with_reducible repeat (first | refine zN ?_ _ | refine zD ?_ | refine zA ?_ _)); refine blk_put (cs := #[.int .i64 ((rd_T61 (rd_L3 l1 x8_1) (ji12)).f0), .int .i64 ((rd_T61 (rd_L3 l1 x8_1) (ji12)).f1), .string (⟨#[]⟩ : ByteArray)]) ?_ 2 _ rfl; (with_reducible repeat (first | refine zN ?_ _ | refine zD ?_ | refine zA ?_ _)); refine blk_put (cs := #[.int .i64 ((rd_T61 (rd_L3 l1 x8_1) (ji12)).f0), .int .i64 0, .string (⟨#[]⟩ : ByteArray)]) ?_ 1 _ rfl; (with_reducible repeat (first | refine zN ?_ _ | refine zD ?_ | refine zA ?_ _)); refine blk_put (cs := #[.int .i64 0, .int .i64 0, .string (⟨#[]⟩ : ByteArray)]) ?_ 0 _ rfl; (with_reducible repeat (first | refine zN ?_ _ | refine zD ?_ | refine zA ?_ _)); exact BK500.out⟩
                 have n3_ : Aside0 (Below w.heap.size w (((w21.setCell ⟨gb500, 0, none⟩ (.int .i64 ((rd_T61 (rd_L3 l1 x8_1) (ji12)).f0))).setCell ⟨gb500, 1, none⟩ (.int .i64 ((rd_T61 (rd_L3 l1 x8_1) (ji12)).f1))).setCell ⟨gb500, 2, none⟩ (.string ((rd_T61 (rd_L3 l1 x8_1) (ji12)).f2)))) := ⟨by repeat (first | (with_reducible first | exact HB.out | apply yA | apply yN | apply yD | refine below_set ?_ GE500.out) | exact HB.out)⟩
                 (try clear HO_7)
                 (try clear HO_9)
                 (try clear BK500)
                 (try clear HB)
                 generalize (((w21.setCell ⟨gb500, 0, none⟩ (.int .i64 ((rd_T61 (rd_L3 l1 x8_1) (ji12)).f0))).setCell ⟨gb500, 1, none⟩ (.int .i64 ((rd_T61 (rd_L3 l1 x8_1) (ji12)).f1))).setCell ⟨gb500, 2, none⟩ (.string ((rd_T61 (rd_L3 l1 x8_1) (ji12)).f2))) = w25 at n0_ n1_ n2_ n3_ ⊢
                 have HO_7 := n0_
                 have HO_9 := n1_
                 have BK500 := n2_
                 have HB := n3_
                 clear n0_ n1_ n2_ n3_
                 have n0_ := Aside0.mk (Kd.S_drew HO_7.out)
                 have n1_ := Aside0.mk (Kd.R_drew HO_9.out)
                 have n2_ := Aside0.mk (blk_drew BK500.out)
                 have n3_ := Aside0.mk (below_drew1 HB.out)
                 clear HO_7
                 clear HO_9
                 clear BK500
                 clear HB
                 have HO_7 := n0_
                 have HO_9 := n1_
                 have BK500 := n2_
                 have HB := n3_
                 clear n0_ n1_ n2_ n3_
                 have p505 : 0 ≤ (x8_1 : Int) := of_decide_eq_true (by first | (with_reducible assumption) | assumption)
                 have q505 : x8_1 < (l1.length : Int) := of_decide_eq_true (by first | (with_reducible assumption) | assumption)
                 obtain ⟨ad505, A505_0, c505_0, e505, hx505_0, hl505_0, hi505_0⟩ := at_L3 HR1.out x8_1 p505 q505
                 have hw505_0 := hx505_0
                 obtain rfl : ad501 = ad505 := (by injection e505)
                 replace hx505_0 := (HB.out.cell (World.block_lt_of_cell? w _ hx505_0)).trans hx505_0
                 have HR505_0 := Aside0.mk hi505_0
                 have HC505_0 := Aside0.mk hl505_0
                 clear hi505_0 hl505_0
                 replace p505 := eq_true p505
                 replace q505 := eq_true q505
                 refine start_ (n := 12) (S := fun w' => w'.cell? ⟨gb500, 0, none⟩ = some (.int .i64 ((rd_T61 (rd_L3 l1 x8_1) (ji12)).f0)) ∧ w'.cell? ⟨gb500, 1, none⟩ = some (.int .i64 ((rd_T61 (rd_L3 l1 x8_1) (ji12)).f1)) ∧ w'.cell? ⟨gb500, 2, none⟩ = some (.string ((rd_T61 (rd_L3 l1 x8_1) (ji12)).f2)) ∧ w'.cell? (ad501.add (x8_1).toNat) = some (.slice A505_0 (rd_L3 l1 x8_1).length c505_0)) (ds := [11]) #[false, false, false, false, false, false, false, false, false, false, false, false] (by kernel_rfl) rfl rfl ⟨(blk_cell BK500.out 0).trans rfl, (blk_cell BK500.out 1).trans rfl, (blk_cell BK500.out 2).trans rfl, ((HB.out.cell (World.block_lt_of_cell? w _ hw505_0)).trans hw505_0)⟩ (fun hHeld => ?_); refine with_tabW tacticianref02_TameRows.tab12 tacticianref02_TameRows.bits12 (fun HT_ HW_ => ?_)
                 generalize w25.drew = w26 at HO_7 HO_9 BK500 HB HR505_0 hx505_0 hHeld ⊢
                 refine pure_ (i := 0) (N := some 49) (v := ?_) (a' := ?_) #[true, false, false, false, false, false, false, false, false, false, false, false] rfl rfl (any_of HT_.out (by kernel_rfl)) (fun _ _ _ h => h) (Or.inl ⟨by rfl, ?_⟩) ?_ ?_
                 rotate_left
                 ·intro w'
                  go_simp
                  with_reducible rfl
                 rotate_left
                 ·simp only [Act.put, List.setIfInBounds_toArray, List.set_cons_zero, List.set_cons_succ, i64_w, i32_w]
                  rfl
                 refine pure_ (i := 2) (N := some 51) (v := ?_) (a' := ?_) #[true, false, true, false, false, false, false, false, false, false, false, false] rfl rfl (any_of HT_.out (by kernel_rfl)) (fun _ _ _ h => h) (Or.inl ⟨by rfl, ?_⟩) ?_ ?_
                 rotate_left
                 ·intro w'
                  go_simp
                  with_reducible rfl
                 rotate_left
                 ·simp only [Act.put, List.setIfInBounds_toArray, List.set_cons_zero, List.set_cons_succ, i64_w, i32_w]
                  rfl
                 refine pure_ (i := 3) (N := some 52) (v := ?_) (a' := ?_) #[true, false, true, true, false, false, false, false, false, false, false, false] rfl rfl (any_of HT_.out (by kernel_rfl)) (fun _ _ _ h => h) (Or.inl ⟨by rfl, ?_⟩) ?_ ?_
                 rotate_left
                 ·intro w'
                  go_simp
                  with_reducible rfl
                 rotate_left
                 ·simp only [Act.put, List.setIfInBounds_toArray, List.set_cons_zero, List.set_cons_succ, i64_w, i32_w]
                  rfl
                 refine pure_ (i := 4) (N := some 53) (v := ?_) (a' := ?_) #[true, false, true, true, true, false, false, false, false, false, false, false] rfl rfl (any_of HT_.out (by kernel_rfl)) (fun _ _ _ h => h) (Or.inl ⟨by rfl, ?_⟩) ?_ ?_
                 rotate_left
                 ·intro w'
                  go_simp
                  with_reducible rfl
                 rotate_left
                 ·simp only [Act.put, List.setIfInBounds_toArray, List.set_cons_zero, List.set_cons_succ, i64_w, i32_w]
                  rfl
                 refine pure_ (i := 5) (N := some 54) (v := ?_) (a' := ?_) #[true, false, true, true, true, true, false, false, false, false, false, false] rfl rfl (any_of HT_.out (by kernel_rfl)) (fun _ _ _ h => h) (Or.inl ⟨by rfl, ?_⟩) ?_ ?_
                 rotate_left
                 ·intro w'
                  go_simp
                  with_reducible rfl
                 rotate_left
                 ·simp only [Act.put, List.setIfInBounds_toArray, List.set_cons_zero, List.set_cons_succ, i64_w, i32_w]
                  rfl
                 refine take_ (i := 1) (N := some 50) (v := ?_) (a' := ?_) #[true, true, true, true, true, true, false, false, false, false, false, false] rfl rfl (take_ofW HT_.out HW_.out (by kernel_rfl)) (fun _ _ _ h => h) (Or.inl ⟨by rfl, ?_⟩) hHeld ?_ ?_
                 rotate_left
                 ·rintro w' ⟨s0, s1, s2, s3⟩
                  go_simp
                  with_reducible rfl
                 rotate_left
                 ·simp only [Act.put, List.setIfInBounds_toArray, List.set_cons_zero, List.set_cons_succ, i64_w, i32_w]
                  rfl
                 refine take_ (i := 6) (N := some 55) (v := ?_) (a' := ?_) #[true, true, true, true, true, true, true, false, false, false, false, false] rfl rfl (take_ofW HT_.out HW_.out (by kernel_rfl)) (fun _ _ _ h => h) (Or.inl ⟨by rfl, ?_⟩) hHeld ?_ ?_
                 rotate_left
                 ·rintro w' ⟨s0, s1, s2, s3⟩
                  go_simp
                  with_reducible rfl
                 rotate_left
                 ·simp only [Act.put, List.setIfInBounds_toArray, List.set_cons_zero, List.set_cons_succ, i64_w, i32_w]
                  rfl
                 refine pure_ (i := 7) (N := some 56) (v := ?_) (a' := ?_) #[true, true, true, true, true, true, true, true, false, false, false, false] rfl rfl (any_of HT_.out (by kernel_rfl)) (fun _ _ _ h => h) (Or.inl ⟨by rfl, ?_⟩) ?_ ?_
                 rotate_left
                 ·intro w'
                  go_simp
                  with_reducible rfl
                 rotate_left
                 ·simp only [Act.put, List.setIfInBounds_toArray, List.set_cons_zero, List.set_cons_succ, i64_w, i32_w]
                  rfl
                 refine pure_ (i := 8) (N := some 57) (v := ?_) (a' := ?_) #[true, true, true, true, true, true, true, true, true, false, false, false] rfl rfl (any_of HT_.out (by kernel_rfl)) (fun _ _ _ h => h) (Or.inl ⟨by rfl, ?_⟩) ?_ ?_
                 rotate_left
                 ·intro w'
                  go_simp
                  with_reducible rfl
                 rotate_left
                 ·simp only [Act.put, List.setIfInBounds_toArray, List.set_cons_zero, List.set_cons_succ, i64_w, i32_w]
                  rfl
                 refine pure_ (i := 9) (N := some 58) (v := ?_) (a' := ?_) #[true, true, true, true, true, true, true, true, true, true, false, false] rfl rfl (any_of HT_.out (by kernel_rfl)) (fun _ _ _ h => h) (Or.inl ⟨by rfl, ?_⟩) ?_ ?_
                 rotate_left
                 ·intro w'
                  go_simp
                  with_reducible rfl
                 rotate_left
                 ·simp only [Act.put, List.setIfInBounds_toArray, List.set_cons_zero, List.set_cons_succ, i64_w, i32_w]
                  rfl
                 refine pure_ (i := 10) (N := some 59) (v := ?_) (a' := ?_) #[true, true, true, true, true, true, true, true, true, true, true, false] rfl rfl (any_of HT_.out (by kernel_rfl)) (fun _ _ _ h => h) (Or.inl ⟨by rfl, ?_⟩) ?_ ?_
                 rotate_left
                 ·intro w'
                  go_simp
                  with_reducible rfl
                 rotate_left
                 ·simp only [Act.put, List.setIfInBounds_toArray, List.set_cons_zero, List.set_cons_succ, i64_w, i32_w]
                  rfl
                 refine last_ (i := 11) (N := none) #[true, true, true, true, true, true, true, true, true, true, true, true] rfl rfl (one_of HT_.out (by kernel_rfl)) (by decide) (fun K hK => ?_)
                 have hs27 : w26.cell? ⟨gb500, 1, none⟩ = some (.int .i64 ((rd_T61 (rd_L3 l1 x8_1) (ji12)).f1)) := (blk_cell BK500.out 1).trans rfl
                 have hfs27 := blk_frozen BK500.out 1
                 refine skip_ (w1 := ?_) (by rfl) rfl ?_ ?_
                 rotate_left
                 ·go_simp
                  rfl
                 refine hK.out _ _ ?_
                 clear hK K
                 refine done_ (done_of HT_.out (by kernel_rfl)) ?_
                 try clear hx502_0
                 try clear hx503_0
                 try clear HS0_
                 try clear HS1_
                 try clear HS2_
                 try clear HS3_
                 try clear hHeld
                 try go_wp2
                 have n0_ : Aside0 (Kd.S (Kd.slice 61 k61) 40 (w26.setCell ⟨gb500, 1, none⟩ (.int .i64 (wrap64 (((rd_T61 (rd_L3 l1 x8_1) (ji12)).f1) + (wrap64 (Int.tdiv x10_3 ((rd_L3 l1 x8_1).length : Int))))))) w.heap.size (fun k_ => some k_ ≠ (u9 : Value).ownBlock ∧ k_ ≠ gb500) u7 x7_1) := ⟨by (with_reducible repeat (first | apply Kd.S_alloc | apply Kd.S_drewN | apply Kd.S_drew)); exact Kd.S_mono (Kd.S_far (p := ⟨gb500, 1, none⟩) (Kd.S_mono HO_7.out (fun k_ hk => (⟨hk, hk.2⟩ : _ ∧ k_ ≠ gb500))) (fun _ hk => hk.2) (.int .i64 (wrap64 (((rd_T61 (rd_L3 l1 x8_1) (ji12)).f1) + (wrap64 (Int.tdiv x10_3 ((rd_L3 l1 x8_1).length : Int))))))) (fun _ hk => ⟨hk.1.1, hk.1.2⟩)⟩
                 have n1_ : Aside0 (Kd.R k61 61 (w26.setCell ⟨gb500, 1, none⟩ (.int .i64 (wrap64 (((rd_T61 (rd_L3 l1 x8_1) (ji12)).f1) + (wrap64 (Int.tdiv x10_3 ((rd_L3 l1 x8_1).length : Int))))))) w.heap.size (fun k_ => k_ ≠ gb500) u9 x9_3) := ⟨by (with_reducible repeat (first | apply Kd.R_alloc | apply Kd.R_drewN | apply Kd.R_drew)); exact Kd.R_mono (Kd.R_far (p := ⟨gb500, 1, none⟩) (Kd.R_mono HO_9.out (fun k_ hk => (⟨hk, hk⟩ : _ ∧ k_ ≠ gb500))) (fun _ hk => hk.2) (.int .i64 (wrap64 (((rd_T61 (rd_L3 l1 x8_1) (ji12)).f1) + (wrap64 (Int.tdiv x10_3 ((rd_L3 l1 x8_1).length : Int))))))) (fun _ hk => hk.1)⟩
                 have n2_ : Aside0 ((w26.setCell ⟨gb500, 1, none⟩ (.int .i64 (wrap64 (((rd_T61 (rd_L3 l1 x8_1) (ji12)).f1) + (wrap64 (Int.tdiv x10_3 ((rd_L3 l1 x8_1).length : Int))))))).heap[gb500]? = some (.cells #[.int .i64 ((rd_T61 (rd_L3 l1 x8_1) (ji12)).f0), .int .i64 (wrap64 (((rd_T61 (rd_L3 l1 x8_1) (ji12)).f1) + (wrap64 (Int.tdiv x10_3 ((rd_L3 l1 x8_1).length : Int))))), .string ((rd_T61 (rd_L3 l1 x8_1) (ji12)).f2)] 61 (0, 0))) := ⟨by (with_reducible repeat (first | refine zN ?_ _ | refine zD ?_ | refine zA ?_ _)); refine blk_put (cs := #[.int .i64 ((rd_T61 (rd_L3 l1 x8_1) (ji12)).f0), .int .i64 ((rd_T61 (rd_L3 l1 x8_1) (ji12)).f1), .string ((rd_T61 (rd_L3 l1 x8_1) (ji12)).f2)]) ?_ 1 _ rfl; (with_reducible repeat (first | refine zN ?_ _ | refine zD ?_ | refine zA ?_ _)); exact BK500.out⟩
                 have n3_ : Aside0 (Below w.heap.size w (w26.setCell ⟨gb500, 1, none⟩ (.int .i64 (wrap64 (((rd_T61 (rd_L3 l1 x8_1) (ji12)).f1) + (wrap64 (Int.tdiv x10_3 ((rd_L3 l1 x8_1).length : Int)))))))) := ⟨by repeat (first | (with_reducible first | exact HB.out | apply yA | apply yN | apply yD | refine below_set ?_ GE500.out) | exact HB.out)⟩
                 (try clear HO_7)
                 (try clear HO_9)
                 (try clear BK500)
                 (try clear HB)
                 generalize (w26.setCell ⟨gb500, 1, none⟩ (.int .i64 (wrap64 (((rd_T61 (rd_L3 l1 x8_1) (ji12)).f1) + (wrap64 (Int.tdiv x10_3 ((rd_L3 l1 x8_1).length : Int))))))) = w28 at n0_ n1_ n2_ n3_ ⊢
                 have HO_7 := n0_
                 have HO_9 := n1_
                 have BK500 := n2_
                 have HB := n3_
                 clear n0_ n1_ n2_ n3_
                 have n0_ := Aside0.mk (Kd.S_drew HO_7.out)
                 have n1_ := Aside0.mk (Kd.R_drew HO_9.out)
                 have n2_ := Aside0.mk (blk_drew BK500.out)
                 have n3_ := Aside0.mk (below_drew1 HB.out)
                 clear HO_7
                 clear HO_9
                 clear BK500
                 clear HB
                 have HO_7 := n0_
                 have HO_9 := n1_
                 have BK500 := n2_
                 have HB := n3_
                 clear n0_ n1_ n2_ n3_
                 have p506 : 0 ≤ (x10_3 : Int) := of_decide_eq_true (by first | (with_reducible assumption) | assumption)
                 have q506 : x10_3 < (l0.length : Int) := of_decide_eq_true (by first | (with_reducible assumption) | assumption)
                 obtain ⟨ad506, e506, hx506_0, hx506_1⟩ := at_T88 HR0.out x10_3 p506 q506
                 have hw506_1 := hx506_1
                 have hw506_0 := hx506_0
                 cases e506
                 replace hx506_0 := (HB.out.cell (World.block_lt_of_cell? w _ hx506_0)).trans hx506_0
                 replace hx506_1 := (HB.out.cell (World.block_lt_of_cell? w _ hx506_1)).trans hx506_1
                 replace p506 := eq_true p506
                 replace q506 := eq_true q506
                 refine start_ (n := 10) (S := fun w' => w'.cell? ⟨gb500, 0, none⟩ = some (.int .i64 ((rd_T61 (rd_L3 l1 x8_1) (ji12)).f0)) ∧ w'.cell? ⟨gb500, 1, none⟩ = some (.int .i64 (wrap64 (((rd_T61 (rd_L3 l1 x8_1) (ji12)).f1) + (wrap64 (Int.tdiv x10_3 ((rd_L3 l1 x8_1).length : Int)))))) ∧ w'.cell? ⟨gb500, 2, none⟩ = some (.string ((rd_T61 (rd_L3 l1 x8_1) (ji12)).f2)) ∧ w'.cell? (ad506.add ((x10_3).toNat * 2)) = some (.int .i64 ((rd_T88 l0 x10_3).f0)) ∧ w'.cell? ⟨(ad506.add ((x10_3).toNat * 2)).block, (ad506.add ((x10_3).toNat * 2)).off + 1, none⟩ = some (.bool ((rd_T88 l0 x10_3).f1))) (ds := []) #[false, false, false, false, false, false, false, false, false, false] (by kernel_rfl) rfl rfl ⟨(blk_cell BK500.out 0).trans rfl, (blk_cell BK500.out 1).trans rfl, (blk_cell BK500.out 2).trans rfl, ((HB.out.cell (World.block_lt_of_cell? w _ hw506_0)).trans hw506_0), ((HB.out.cell (World.block_lt_of_cell? w _ hw506_1)).trans hw506_1)⟩ (fun hHeld => ?_); refine with_tabW tacticianref02_TameRows.tab13 tacticianref02_TameRows.bits13 (fun HT_ HW_ => ?_)
                 generalize w28.drew = w29 at HO_7 HO_9 BK500 HB hx506_0 hx506_1 hHeld ⊢
                 refine pure_ (i := 0) (N := some 60) (v := ?_) (a' := ?_) #[true, false, false, false, false, false, false, false, false, false] rfl rfl (any_of HT_.out (by kernel_rfl)) (fun _ _ _ h => h) (Or.inl ⟨by rfl, ?_⟩) ?_ ?_
                 rotate_left
                 ·intro w'
                  go_simp
                  with_reducible rfl
                 rotate_left
                 ·simp only [Act.put, List.setIfInBounds_toArray, List.set_cons_zero, List.set_cons_succ, i64_w, i32_w]
                  rfl
                 refine pure_ (i := 2) (N := some 62) (v := ?_) (a' := ?_) #[true, false, true, false, false, false, false, false, false, false] rfl rfl (any_of HT_.out (by kernel_rfl)) (fun _ _ _ h => h) (Or.inl ⟨by rfl, ?_⟩) ?_ ?_
                 rotate_left
                 ·intro w'
                  go_simp
                  with_reducible rfl
                 rotate_left
                 ·simp only [Act.put, List.setIfInBounds_toArray, List.set_cons_zero, List.set_cons_succ, i64_w, i32_w]
                  rfl
                 refine pure_ (i := 3) (N := some 63) (v := ?_) (a' := ?_) #[true, false, true, true, false, false, false, false, false, false] rfl rfl (any_of HT_.out (by kernel_rfl)) (fun _ _ _ h => h) (Or.inl ⟨by rfl, ?_⟩) ?_ ?_
                 rotate_left
                 ·intro w'
                  go_simp
                  with_reducible rfl
                 rotate_left
                 ·simp only [Act.put, List.setIfInBounds_toArray, List.set_cons_zero, List.set_cons_succ, i64_w, i32_w]
                  rfl
                 refine pure_ (i := 4) (N := some 64) (v := ?_) (a' := ?_) #[true, false, true, true, true, false, false, false, false, false] rfl rfl (any_of HT_.out (by kernel_rfl)) (fun _ _ _ h => h) (Or.inl ⟨by rfl, ?_⟩) ?_ ?_
                 rotate_left
                 ·intro w'
                  go_simp
                  with_reducible rfl
                 rotate_left
                 ·simp only [Act.put, List.setIfInBounds_toArray, List.set_cons_zero, List.set_cons_succ, i64_w, i32_w]
                  rfl
                 refine take_ (i := 1) (N := some 61) (v := ?_) (a' := ?_) #[true, true, true, true, true, false, false, false, false, false] rfl rfl (take_ofW HT_.out HW_.out (by kernel_rfl)) (fun _ _ _ h => h) (Or.inl ⟨by rfl, ?_⟩) hHeld ?_ ?_
                 rotate_left
                 ·rintro w' ⟨s0, s1, s2, s3, s4⟩
                  go_simp
                  with_reducible rfl
                 rotate_left
                 ·simp only [Act.put, List.setIfInBounds_toArray, List.set_cons_zero, List.set_cons_succ, i64_w, i32_w]
                  rfl
                 refine take_ (i := 5) (N := some 65) (v := ?_) (a' := ?_) #[true, true, true, true, true, true, false, false, false, false] rfl rfl (take_ofW HT_.out HW_.out (by kernel_rfl)) (fun _ _ _ h => h) (Or.inl ⟨by rfl, ?_⟩) hHeld ?_ ?_
                 rotate_left
                 ·rintro w' ⟨s0, s1, s2, s3, s4⟩
                  go_simp
                  with_reducible rfl
                 rotate_left
                 ·simp only [Act.put, List.setIfInBounds_toArray, List.set_cons_zero, List.set_cons_succ, i64_w, i32_w]
                  rfl
                 refine one_ (i := 6) (N := some 66) #[true, true, true, true, true, true, true, false, false, false] rfl rfl (one_of HT_.out (by kernel_rfl)) (by decide) (fun K hK => ?_)
                 refine goes_ Tryz.func112 (by kernel_rfl) rfl #[.agg #[.int .i64 ((rd_T61 (rd_L3 l1 x8_1) (ji12)).f0), .int .i64 (wrap64 (((rd_T61 (rd_L3 l1 x8_1) (ji12)).f1) + (wrap64 (Int.tdiv x10_3 ((rd_L3 l1 x8_1).length : Int))))), .string ((rd_T61 (rd_L3 l1 x8_1) (ji12)).f2)], .agg #[.int .i64 ((rd_T88 l0 x10_3).f0), .bool ((rd_T88 l0 x10_3).f1)]] (by rfl) rfl rfl (by (try simp only [List.map_toArray, List.map_cons, List.map_nil]); first | done | (simp only [hji12]; rfl) | rfl | (simp only [List.length_drop, List.length_take]; rfl)) ?_
                 with_reducible refine (tacticianref01_TameAs.calls k3 ((rd_T61 (rd_L3 l1 x8_1) (ji12)).f0) (wrap64 (((rd_T61 (rd_L3 l1 x8_1) (ji12)).f1) + (wrap64 (Int.tdiv x10_3 ((rd_L3 l1 x8_1).length : Int))))) ((rd_T61 (rd_L3 l1 x8_1) (ji12)).f2) ((rd_T88 l0 x10_3).f0) ((rd_T88 l0 x10_3).f1) t507 t508 t509 _ A16.out).mono ?_
                 rintro e w30 ⟨rfl, hb⟩
                 refine ⟨_, rfl, ?_⟩
                 have n0_ := Aside0.mk (Kd.S_below (by (with_reducible repeat (first | apply Kd.S_alloc | apply Kd.S_drewN | apply Kd.S_drew)); exact HO_7.out) hb)
                 have n1_ := Aside0.mk (Kd.R_below (by (with_reducible repeat (first | apply Kd.R_alloc | apply Kd.R_drewN | apply Kd.R_drew)); exact HO_9.out) hb)
                 have n2_ := Aside0.mk (blk_below (g := gb500) (o := .cells #[.int .i64 ((rd_T61 (rd_L3 l1 x8_1) (ji12)).f0), .int .i64 (wrap64 (((rd_T61 (rd_L3 l1 x8_1) (ji12)).f1) + (wrap64 (Int.tdiv x10_3 ((rd_L3 l1 x8_1).length : Int))))), .string ((rd_T61 (rd_L3 l1 x8_1) (ji12)).f2)] 61 (0, 0)) (by (with_reducible repeat (first | refine zN ?_ _ | refine zD ?_ | refine zA ?_ _)); exact BK500.out) hb)
                 have n3_ := Aside0.mk (below_step (by repeat (first | (with_reducible first | exact HB.out | apply yA | apply yN | apply yD | refine below_set ?_ GE500.out) | exact HB.out)) hb)
                 clear HO_7
                 clear HO_9
                 clear BK500
                 clear HB
                 have HO_7 := n0_
                 have HO_9 := n1_
                 have BK500 := n2_
                 have HB := n3_
                 clear n0_ n1_ n2_ n3_
                 (try clear hb)
                 (try clear hb2)
                 (try clear hk)
                 (try clear hi)
                 refine hK.out _ _ ⟨(blk_cell BK500.out 0).trans rfl, (blk_cell BK500.out 1).trans rfl, (blk_cell BK500.out 2).trans rfl, ((HB.out.cell (World.block_lt_of_cell? w _ hw506_0)).trans hw506_0), ((HB.out.cell (World.block_lt_of_cell? w _ hw506_1)).trans hw506_1)⟩ (fun hHeld => ?_)
                 clear hK K
                 refine norm_ (a' := ?_) ?_ ?_
                 rotate_left
                 ·show Act.put _ (some 66) _ = _
                  simp only [Act.put, List.setIfInBounds_toArray, List.set_cons_zero, List.set_cons_succ, i64_w, i32_w]
                  rfl
                 refine one_ (i := 7) (N := some 67) #[true, true, true, true, true, true, true, true, false, false] rfl rfl (one_of HT_.out (by kernel_rfl)) (by decide) (fun K hK => ?_)
                 refine value_ (w1 := ?_) (v := ?_) (by rfl) rfl ?_ ?_
                 rotate_left 2
                 ·go_simp
                  constructor
                  ·rfl
                  ·rfl
                 refine hK.out _ _ ⟨(blk_cell (blk_alloc BK500.out _) 0).trans rfl, (blk_cell (blk_alloc BK500.out _) 1).trans rfl, (blk_cell (blk_alloc BK500.out _) 2).trans rfl, (World.cell?_alloc_lt _ _ _ (World.block_lt_of_cell? _ _ (((HB.out.cell (World.block_lt_of_cell? w _ hw506_0)).trans hw506_0)))).trans (((HB.out.cell (World.block_lt_of_cell? w _ hw506_0)).trans hw506_0)), (World.cell?_alloc_lt _ _ _ (World.block_lt_of_cell? _ _ (((HB.out.cell (World.block_lt_of_cell? w _ hw506_1)).trans hw506_1)))).trans (((HB.out.cell (World.block_lt_of_cell? w _ hw506_1)).trans hw506_1))⟩ (fun hHeld => ?_)
                 clear hK K
                 refine norm_ (a' := ?_) ?_ ?_
                 rotate_left
                 ·show Act.put _ (some 67) _ = _
                  simp only [Act.put, List.setIfInBounds_toArray, List.set_cons_zero, List.set_cons_succ, i64_w, i32_w]
                  rfl
                 refine one_ (i := 8) (N := some 68) #[true, true, true, true, true, true, true, true, true, false] rfl rfl (one_of HT_.out (by kernel_rfl)) (by decide) (fun K hK => ?_)
                 refine Kd.R_append_step k61 (w0 := w) w.heap.size (by rfl) (.tmp 60) (.tmp 67) 40 61 (.agg #[(.int .i64 0), (.int .i64 0), (.string ⟨#[]⟩)]) 32 rfl Tryz.underlying40 info61 rfl (by decide) (by omega) u9 x9_3 (⟨t507, t508, t509⟩ : S61) [.int .i64 t507, .int .i64 t508, .string t509] (fun k_ => k_ ≠ gb500) (fun _ => False) rfl rfl ?aP (fun _ hk => hk.elim) ?aF ?aO ?aB ?aS ?aL ?_
                 (case aP => exact k61_mkM _ _ _ (⟨t507, t508, t509⟩ : S61))
                 (case aB => exact (by repeat (first | (with_reducible first | exact HB.out | apply yA | apply yN | apply yD | refine below_set ?_ GE500.out) | exact HB.out)))
                 (case aF => exact (fun k_ hk => Kd.freshB (g := gb500) (o := .cells #[.int .i64 ((rd_T61 (rd_L3 l1 x8_1) (ji12)).f0), .int .i64 (wrap64 (((rd_T61 (rd_L3 l1 x8_1) (ji12)).f1) + (wrap64 (Int.tdiv x10_3 ((rd_L3 l1 x8_1).length : Int))))), .string ((rd_T61 (rd_L3 l1 x8_1) (ji12)).f2)] 61 (0, 0)) (by (with_reducible repeat (first | refine zN ?_ _ | refine zD ?_ | refine zA ?_ _)); exact BK500.out) k_ hk))
                 (case aO => exact (by (with_reducible repeat (first | apply Kd.R_alloc | apply Kd.R_drewN | apply Kd.R_drew)); exact HO_9.out))
                 (case aS => exact (below_size (by repeat (first | (with_reducible first | exact HB.out | apply yA | apply yN | apply yD | refine below_set ?_ GE500.out) | exact HB.out))))
                 (case aL => have := LMc17.out; omega)
                 intro v511 w31 ho hb hg hat
                 rw [← Ny510.out] at ho
                 have n0_ := Aside0.mk (Kd.S_after (ok := (fun k_ => k_ ≠ gb500)) (by (with_reducible repeat (first | apply Kd.S_alloc | apply Kd.S_drewN | apply Kd.S_drew)); exact Kd.S_mono HO_7.out (fun _ hk => ⟨hk.2, hk.1⟩)) hg hat)
                 have n1_ := Aside0.mk (blk_grown (g := gb500) (o := .cells #[.int .i64 ((rd_T61 (rd_L3 l1 x8_1) (ji12)).f0), .int .i64 (wrap64 (((rd_T61 (rd_L3 l1 x8_1) (ji12)).f1) + (wrap64 (Int.tdiv x10_3 ((rd_L3 l1 x8_1).length : Int))))), .string ((rd_T61 (rd_L3 l1 x8_1) (ji12)).f2)] 61 (0, 0)) (by (with_reducible repeat (first | refine zN ?_ _ | refine zD ?_ | refine zA ?_ _)); exact BK500.out) hg (Kd.R_away HO_9.out (fun _ hk => hk)))
                 have n2_ := Aside0.mk (hb)
                 have n3_ := Aside0.mk (ho)
                 clear HO_7
                 clear BK500
                 clear HB
                 clear HO_9
                 have HO_7 := n0_
                 have BK500 := n1_
                 have HB := n2_
                 have HO512 := n3_
                 clear n0_ n1_ n2_ n3_
                 clear ho hb hg hat
                 refine hK.out _ _ ⟨(blk_cell BK500.out 0).trans rfl, (blk_cell BK500.out 1).trans rfl, (blk_cell BK500.out 2).trans rfl, ((HB.out.cell (World.block_lt_of_cell? w _ hw506_0)).trans hw506_0), ((HB.out.cell (World.block_lt_of_cell? w _ hw506_1)).trans hw506_1)⟩ (fun hHeld => ?_)
                 clear hK K
                 refine norm_ (a' := ?_) ?_ ?_
                 rotate_left
                 ·show Act.put _ (some 68) _ = _
                  simp only [Act.put, List.setIfInBounds_toArray, List.set_cons_zero, List.set_cons_succ, i64_w, i32_w]
                  rfl
                 refine pure_ (i := 9) (N := some 9) (v := ?_) (a' := ?_) #[true, true, true, true, true, true, true, true, true, true] rfl rfl (any_of HT_.out (by kernel_rfl)) (fun _ _ _ h => h) (Or.inl ⟨by rfl, ?_⟩) ?_ ?_
                 rotate_left
                 ·intro w'
                  go_simp
                  with_reducible rfl
                 rotate_left
                 ·simp only [Act.put, List.setIfInBounds_toArray, List.set_cons_zero, List.set_cons_succ, i64_w, i32_w]
                  rfl
                 refine done_ (done_of HT_.out (by kernel_rfl)) ?_
                 try go_wp2
                 go_roundg k3
                 case measure => have := HK1.out; have := HJ3.out; have := HK3.out; omega
                 case rel => exact ⟨(y510), (wrap64 (x10_3 + 1)), (by first | rfl | (simp; done) | (simp [*]; done)), H', ⟨by have := HK1.out; have := HJ3.out; have := HK3.out; omega⟩, ⟨by (with_reducible repeat (first | apply Kd.S_alloc | apply Kd.S_drewN | apply Kd.S_drew)); exact Kd.S_mono HO_7.out (fun _ hk => hk.2)⟩, ⟨by (with_reducible repeat (first | apply Kd.R_alloc | apply Kd.R_drewN | apply Kd.R_drew)); exact Kd.R_mono HO512.out (fun _ hk => trivial)⟩, ⟨by repeat (first | (with_reducible first | exact HB.out | apply yA | apply yN | apply yD | refine below_set ?_ GE500.out) | exact HB.out)⟩⟩
                ·rw [if_neg c17] at H
                 exact absurd H (by simp)
               ·rw [if_neg c15] at H
                exact absurd H (by simp)
              ·rw [if_neg c14] at H
               exact absurd H (by simp)
             ·rw [if_neg c13] at H
              exact absurd H (by simp)
           ·rw [if_neg c10] at H
            have c10b0 : decide (0 < ((rd_L3 l1 x8_1).length : Int)) = false := decide_eq_false c10
            have c10b1 : decide (0 < (rd_L3 l1 x8_1).length) = false := decide_eq_false (by omega)
            clear c10
            by_cases c32 : 0 ≤ x10_3
            ·rw [if_pos c32] at H
             have c32b0 : decide (0 ≤ x10_3) = true := decide_eq_true c32
             clear c32
             replace H := Option.bind_eq_some_iff.mp H
             obtain ⟨⟨t514, t515, t516⟩, A330, H⟩ := H
             replace H : (if x9_3.length < 4398046511104 then (tacticianref02_TameRows.l1 k3 l0 l1 a2 x7_1 x8_1 (x9_3 ++ [(⟨t514, t515, t516⟩ : S61)]) (wrap64 (x10_3 + 1))) else (none)) = some r := H
             have A33 := Aside0.mk A330
             clear A330
             by_cases c34 : x9_3.length < 4398046511104
             ·rw [if_pos c34] at H
              have LMc34 := Aside0.mk c34
              clear c34
              obtain ⟨y517, hy517⟩ : ∃ y_ : List (S61), y_ = (x9_3 ++ [(⟨t514, t515, t516⟩ : S61)]) := ⟨_, rfl⟩
              replace H : (tacticianref02_TameRows.l1 k3 l0 l1 a2 x7_1 x8_1 y517 (wrap64 (x10_3 + 1))) = some r := by first | (rw [hy517]; with_reducible exact H) | (have H2_ := (Option.bind_some _ _).symm.trans H; rw [hy517]; with_reducible exact H2_) | (have H2_ := (Option.bind_some _ _).symm.trans H; with_reducible exact H2_) | with_reducible exact H | (rw [hy517]; exact H) | exact H
              have Ny517 := Aside0.mk hy517
              clear hy517
              have H' := Aside0.mk H
              clear H
              try go_wp2_with (first | ((with_reducible refine gate_dst (N := 11) rfl ?_); refine box_event ?hg (N := 11) ?hd (cs := #[.int .i64 0, .int .i64 0, .string (⟨#[]⟩ : ByteArray)]) (t := 61) ?hr ?_; (case hd => rfl); (case hg => rfl); (case hr => first | (go_simp; done) | (go_simp; rfl)); intro gb500 hg w35 hbox hb; have n0_ := Aside0.mk (Kd.S_below (Kd.S_elderB (by (with_reducible repeat (first | apply Kd.S_alloc | apply Kd.S_drewN | apply Kd.S_drew)); exact HO_7.out) gb500 (Nat.le_of_eq hg.symm)) hb); have n1_ := Aside0.mk (Kd.R_below (Kd.R_elderB (by (with_reducible repeat (first | apply Kd.R_alloc | apply Kd.R_drewN | apply Kd.R_drew)); exact HO_9.out) gb500 (Nat.le_of_eq hg.symm)) hb); have n2_ := Aside0.mk (below_step (by repeat (first | (with_reducible first | exact HB.out | apply yA | apply yN | apply yD) | exact HB.out)) hb); have n3_ := Aside0.mk (hbox); have n4_ := Aside0.mk ((by rw [hg]; exact (below_size (by repeat (first | (with_reducible first | exact HB.out | apply yA | apply yN | apply yD) | exact HB.out))) : w.heap.size ≤ gb500)); have n5_ := Aside0.mk ((by rw [hg]; exact (below_size (by repeat (first | (with_reducible first | exact HB.out | apply yA | apply yN | apply yD) | exact HB.out))) : w.heap.size ≤ gb500)); clear HO_7; clear HO_9; clear HB; have HO_7 := n0_; have HO_9 := n1_; have HB := n2_; have BK500 := n3_; have GW500 := n4_; have GE500 := n5_; clear n0_ n1_ n2_ n3_ n4_ n5_; clear hb hbox hg; have hcz36_0 : w35.cell? ⟨gb500, 0, none⟩ = some (.int .i64 0) := (blk_cell BK500.out 0).trans rfl; have hcz36_1 : w35.cell? ⟨gb500, 1, none⟩ = some (.int .i64 0) := (blk_cell BK500.out 1).trans rfl; have hcz36_2 : w35.cell? ⟨gb500, 2, none⟩ = some (.string (⟨#[]⟩ : ByteArray)) := (blk_cell BK500.out 2).trans rfl; have hfz36_0 := blk_frozen BK500.out 0; have hfz36_1 := blk_frozen BK500.out 1; have hfz36_2 := blk_frozen BK500.out 2; have p501 : 0 ≤ (x8_1 : Int) := of_decide_eq_true (by first | (with_reducible assumption) | assumption); have q501 : x8_1 < (l1.length : Int) := of_decide_eq_true (by first | (with_reducible assumption) | assumption); obtain ⟨ad501, A501_0, c501_0, e501, hx501_0, hl501_0, hi501_0⟩ := at_L3 HR1.out x8_1 p501 q501; cases e501; have hn501_0 : ad501.block ≠ gb500 := Nat.ne_of_lt (Nat.lt_of_lt_of_le (by have := World.block_lt_of_cell? _ _ hx501_0; first | rwa [add_block] at this | exact this) GW500.out); have hn501_1 : ad501.block ≠ gb500 := Nat.ne_of_lt (Nat.lt_of_lt_of_le (by have := World.block_lt_of_cell? _ _ hx501_0; first | rwa [add_block] at this | exact this) GW500.out); have hn501_2 : ad501.block ≠ gb500 := Nat.ne_of_lt (Nat.lt_of_lt_of_le (by have := World.block_lt_of_cell? _ _ hx501_0; first | rwa [add_block] at this | exact this) GW500.out); replace hx501_0 := (HB.out.cell (World.block_lt_of_cell? w _ hx501_0)).trans hx501_0; have HR501_0 := Aside0.mk hi501_0; have HC501_0 := Aside0.mk hl501_0; clear hi501_0 hl501_0; replace hx501_0 := (cell_far (p := ⟨gb500, 0, none⟩) (by first | (rw [add_block]; exact hn501_0) | (show (Addr.add _ _).block ≠ _; rw [add_block]; exact hn501_0) | exact hn501_0) (.int .i64 0)).trans hx501_0; replace hx501_0 := (cell_far (p := ⟨gb500, 1, none⟩) (by first | (rw [add_block]; exact hn501_1) | (show (Addr.add _ _).block ≠ _; rw [add_block]; exact hn501_1) | exact hn501_1) (.int .i64 0)).trans hx501_0; replace hx501_0 := (cell_far (p := ⟨gb500, 2, none⟩) (by first | (rw [add_block]; exact hn501_2) | (show (Addr.add _ _).block ≠ _; rw [add_block]; exact hn501_2) | exact hn501_2) (.string (⟨#[]⟩ : ByteArray))).trans hx501_0; clear hn501_0; clear hn501_1; clear hn501_2; replace p501 := eq_true p501; replace q501 := eq_true q501))
              have n0_ : Aside0 (Kd.S (Kd.slice 61 k61) 40 (((w35.setCell ⟨gb500, 0, none⟩ (.int .i64 0)).setCell ⟨gb500, 1, none⟩ (.int .i64 0)).setCell ⟨gb500, 2, none⟩ (.string (⟨#[]⟩ : ByteArray))) w.heap.size (fun k_ => some k_ ≠ (u9 : Value).ownBlock ∧ k_ ≠ gb500) u7 x7_1) := ⟨by (with_reducible repeat (first | apply Kd.S_alloc | apply Kd.S_drewN | apply Kd.S_drew)); exact Kd.S_mono (Kd.S_far (p := ⟨gb500, 2, none⟩) (Kd.S_far (p := ⟨gb500, 1, none⟩) (Kd.S_far (p := ⟨gb500, 0, none⟩) (Kd.S_mono HO_7.out (fun k_ hk => (⟨hk, hk.2⟩ : _ ∧ k_ ≠ gb500))) (fun _ hk => hk.2) (.int .i64 0)) (fun _ hk => hk.2) (.int .i64 0)) (fun _ hk => hk.2) (.string (⟨#[]⟩ : ByteArray))) (fun _ hk => ⟨hk.1.1, hk.1.2⟩)⟩
              have n1_ : Aside0 (Kd.R k61 61 (((w35.setCell ⟨gb500, 0, none⟩ (.int .i64 0)).setCell ⟨gb500, 1, none⟩ (.int .i64 0)).setCell ⟨gb500, 2, none⟩ (.string (⟨#[]⟩ : ByteArray))) w.heap.size (fun k_ => k_ ≠ gb500) u9 x9_3) := ⟨by (with_reducible repeat (first | apply Kd.R_alloc | apply Kd.R_drewN | apply Kd.R_drew)); exact Kd.R_mono (Kd.R_far (p := ⟨gb500, 2, none⟩) (Kd.R_far (p := ⟨gb500, 1, none⟩) (Kd.R_far (p := ⟨gb500, 0, none⟩) (Kd.R_mono HO_9.out (fun k_ hk => (⟨hk, hk.2⟩ : _ ∧ k_ ≠ gb500))) (fun _ hk => hk.2) (.int .i64 0)) (fun _ hk => hk.2) (.int .i64 0)) (fun _ hk => hk.2) (.string (⟨#[]⟩ : ByteArray))) (fun _ hk => hk.1.2)⟩
              have n2_ : Aside0 ((((w35.setCell ⟨gb500, 0, none⟩ (.int .i64 0)).setCell ⟨gb500, 1, none⟩ (.int .i64 0)).setCell ⟨gb500, 2, none⟩ (.string (⟨#[]⟩ : ByteArray))).heap[gb500]? = some (.cells #[.int .i64 0, .int .i64 0, .string (⟨#[]⟩ : ByteArray)] 61 (0, 0))) := ⟨by (with_reducible repeat (first | refine zN ?_ _ | refine zD ?_ | refine zA ?_ _)); refine blk_put (cs := #[.int .i64 0, .int .i64 0, .string (⟨#[]⟩ : ByteArray)]) ?_ 2 _ rfl; (with_reducible repeat (first | refine zN ?_ _ | refine zD ?_ | refine zA ?_ _)); refine blk_put (cs := #[.int .i64 0, .int .i64 0, .string (⟨#[]⟩ : ByteArray)]) ?_ 1 _ rfl; (with_reducible repeat (first | refine zN ?_ _ | refine zD ?_ | refine zA ?_ _)); refine blk_put (cs := #[.int .i64 0, .int .i64 0, .string (⟨#[]⟩ : ByteArray)]) ?_ 0 _ rfl; (with_reducible repeat (first | refine zN ?_ _ | refine zD ?_ | refine zA ?_ _)); exact BK500.out⟩
              have n3_ : Aside0 (Below w.heap.size w (((w35.setCell ⟨gb500, 0, none⟩ (.int .i64 0)).setCell ⟨gb500, 1, none⟩ (.int .i64 0)).setCell ⟨gb500, 2, none⟩ (.string (⟨#[]⟩ : ByteArray)))) := ⟨by repeat (first | (with_reducible first | exact HB.out | apply yA | apply yN | apply yD | refine below_set ?_ GE500.out) | exact HB.out)⟩
              (try clear HO_7)
              (try clear HO_9)
              (try clear BK500)
              (try clear HB)
              generalize (((w35.setCell ⟨gb500, 0, none⟩ (.int .i64 0)).setCell ⟨gb500, 1, none⟩ (.int .i64 0)).setCell ⟨gb500, 2, none⟩ (.string (⟨#[]⟩ : ByteArray))) = w37 at n0_ n1_ n2_ n3_ ⊢
              have HO_7 := n0_
              have HO_9 := n1_
              have BK500 := n2_
              have HB := n3_
              clear n0_ n1_ n2_ n3_
              have n0_ := Aside0.mk (Kd.S_drew HO_7.out)
              have n1_ := Aside0.mk (Kd.R_drew HO_9.out)
              have n2_ := Aside0.mk (blk_drew BK500.out)
              have n3_ := Aside0.mk (below_drew1 HB.out)
              clear HO_7
              clear HO_9
              clear BK500
              clear HB
              have HO_7 := n0_
              have HO_9 := n1_
              have BK500 := n2_
              have HB := n3_
              clear n0_ n1_ n2_ n3_
              have p513 : 0 ≤ (x10_3 : Int) := of_decide_eq_true (by first | (with_reducible assumption) | assumption)
              have q513 : x10_3 < (l0.length : Int) := of_decide_eq_true (by first | (with_reducible assumption) | assumption)
              obtain ⟨ad513, e513, hx513_0, hx513_1⟩ := at_T88 HR0.out x10_3 p513 q513
              have hw513_1 := hx513_1
              have hw513_0 := hx513_0
              cases e513
              replace hx513_0 := (HB.out.cell (World.block_lt_of_cell? w _ hx513_0)).trans hx513_0
              replace hx513_1 := (HB.out.cell (World.block_lt_of_cell? w _ hx513_1)).trans hx513_1
              replace p513 := eq_true p513
              replace q513 := eq_true q513
              refine start_ (n := 10) (S := fun w' => w'.cell? ⟨gb500, 0, none⟩ = some (.int .i64 0) ∧ w'.cell? ⟨gb500, 1, none⟩ = some (.int .i64 0) ∧ w'.cell? ⟨gb500, 2, none⟩ = some (.string (⟨#[]⟩ : ByteArray)) ∧ w'.cell? (ad513.add ((x10_3).toNat * 2)) = some (.int .i64 ((rd_T88 l0 x10_3).f0)) ∧ w'.cell? ⟨(ad513.add ((x10_3).toNat * 2)).block, (ad513.add ((x10_3).toNat * 2)).off + 1, none⟩ = some (.bool ((rd_T88 l0 x10_3).f1))) (ds := []) #[false, false, false, false, false, false, false, false, false, false] (by kernel_rfl) rfl rfl ⟨(blk_cell BK500.out 0).trans rfl, (blk_cell BK500.out 1).trans rfl, (blk_cell BK500.out 2).trans rfl, ((HB.out.cell (World.block_lt_of_cell? w _ hw513_0)).trans hw513_0), ((HB.out.cell (World.block_lt_of_cell? w _ hw513_1)).trans hw513_1)⟩ (fun hHeld => ?_); refine with_tabW tacticianref02_TameRows.tab13 tacticianref02_TameRows.bits13 (fun HT_ HW_ => ?_)
              generalize w37.drew = w38 at HO_7 HO_9 BK500 HB hx513_0 hx513_1 hHeld ⊢
              refine pure_ (i := 0) (N := some 60) (v := ?_) (a' := ?_) #[true, false, false, false, false, false, false, false, false, false] rfl rfl (any_of HT_.out (by kernel_rfl)) (fun _ _ _ h => h) (Or.inl ⟨by rfl, ?_⟩) ?_ ?_
              rotate_left
              ·intro w'
               go_simp
               with_reducible rfl
              rotate_left
              ·simp only [Act.put, List.setIfInBounds_toArray, List.set_cons_zero, List.set_cons_succ, i64_w, i32_w]
               rfl
              refine pure_ (i := 2) (N := some 62) (v := ?_) (a' := ?_) #[true, false, true, false, false, false, false, false, false, false] rfl rfl (any_of HT_.out (by kernel_rfl)) (fun _ _ _ h => h) (Or.inl ⟨by rfl, ?_⟩) ?_ ?_
              rotate_left
              ·intro w'
               go_simp
               with_reducible rfl
              rotate_left
              ·simp only [Act.put, List.setIfInBounds_toArray, List.set_cons_zero, List.set_cons_succ, i64_w, i32_w]
               rfl
              refine pure_ (i := 3) (N := some 63) (v := ?_) (a' := ?_) #[true, false, true, true, false, false, false, false, false, false] rfl rfl (any_of HT_.out (by kernel_rfl)) (fun _ _ _ h => h) (Or.inl ⟨by rfl, ?_⟩) ?_ ?_
              rotate_left
              ·intro w'
               go_simp
               with_reducible rfl
              rotate_left
              ·simp only [Act.put, List.setIfInBounds_toArray, List.set_cons_zero, List.set_cons_succ, i64_w, i32_w]
               rfl
              refine pure_ (i := 4) (N := some 64) (v := ?_) (a' := ?_) #[true, false, true, true, true, false, false, false, false, false] rfl rfl (any_of HT_.out (by kernel_rfl)) (fun _ _ _ h => h) (Or.inl ⟨by rfl, ?_⟩) ?_ ?_
              rotate_left
              ·intro w'
               go_simp
               with_reducible rfl
              rotate_left
              ·simp only [Act.put, List.setIfInBounds_toArray, List.set_cons_zero, List.set_cons_succ, i64_w, i32_w]
               rfl
              refine take_ (i := 1) (N := some 61) (v := ?_) (a' := ?_) #[true, true, true, true, true, false, false, false, false, false] rfl rfl (take_ofW HT_.out HW_.out (by kernel_rfl)) (fun _ _ _ h => h) (Or.inl ⟨by rfl, ?_⟩) hHeld ?_ ?_
              rotate_left
              ·rintro w' ⟨s0, s1, s2, s3, s4⟩
               go_simp
               with_reducible rfl
              rotate_left
              ·simp only [Act.put, List.setIfInBounds_toArray, List.set_cons_zero, List.set_cons_succ, i64_w, i32_w]
               rfl
              refine take_ (i := 5) (N := some 65) (v := ?_) (a' := ?_) #[true, true, true, true, true, true, false, false, false, false] rfl rfl (take_ofW HT_.out HW_.out (by kernel_rfl)) (fun _ _ _ h => h) (Or.inl ⟨by rfl, ?_⟩) hHeld ?_ ?_
              rotate_left
              ·rintro w' ⟨s0, s1, s2, s3, s4⟩
               go_simp
               with_reducible rfl
              rotate_left
              ·simp only [Act.put, List.setIfInBounds_toArray, List.set_cons_zero, List.set_cons_succ, i64_w, i32_w]
               rfl
              refine one_ (i := 6) (N := some 66) #[true, true, true, true, true, true, true, false, false, false] rfl rfl (one_of HT_.out (by kernel_rfl)) (by decide) (fun K hK => ?_)
              refine goes_ Tryz.func112 (by kernel_rfl) rfl #[.agg #[.int .i64 0, .int .i64 0, .string (⟨#[]⟩ : ByteArray)], .agg #[.int .i64 ((rd_T88 l0 x10_3).f0), .bool ((rd_T88 l0 x10_3).f1)]] (by rfl) rfl rfl (by (try simp only [List.map_toArray, List.map_cons, List.map_nil]); first | done | rfl | (simp only [List.length_drop, List.length_take]; rfl)) ?_
              with_reducible refine (tacticianref01_TameAs.calls k3 0 0 (⟨#[]⟩ : ByteArray) ((rd_T88 l0 x10_3).f0) ((rd_T88 l0 x10_3).f1) t514 t515 t516 _ A33.out).mono ?_
              rintro e w39 ⟨rfl, hb⟩
              refine ⟨_, rfl, ?_⟩
              have n0_ := Aside0.mk (Kd.S_below (by (with_reducible repeat (first | apply Kd.S_alloc | apply Kd.S_drewN | apply Kd.S_drew)); exact HO_7.out) hb)
              have n1_ := Aside0.mk (Kd.R_below (by (with_reducible repeat (first | apply Kd.R_alloc | apply Kd.R_drewN | apply Kd.R_drew)); exact HO_9.out) hb)
              have n2_ := Aside0.mk (blk_below (g := gb500) (o := .cells #[.int .i64 0, .int .i64 0, .string (⟨#[]⟩ : ByteArray)] 61 (0, 0)) (by (with_reducible repeat (first | refine zN ?_ _ | refine zD ?_ | refine zA ?_ _)); exact BK500.out) hb)
              have n3_ := Aside0.mk (below_step (by repeat (first | (with_reducible first | exact HB.out | apply yA | apply yN | apply yD | refine below_set ?_ GE500.out) | exact HB.out)) hb)
              clear HO_7
              clear HO_9
              clear BK500
              clear HB
              have HO_7 := n0_
              have HO_9 := n1_
              have BK500 := n2_
              have HB := n3_
              clear n0_ n1_ n2_ n3_
              (try clear hb)
              (try clear hb2)
              (try clear hk)
              (try clear hi)
              refine hK.out _ _ ⟨(blk_cell BK500.out 0).trans rfl, (blk_cell BK500.out 1).trans rfl, (blk_cell BK500.out 2).trans rfl, ((HB.out.cell (World.block_lt_of_cell? w _ hw513_0)).trans hw513_0), ((HB.out.cell (World.block_lt_of_cell? w _ hw513_1)).trans hw513_1)⟩ (fun hHeld => ?_)
              clear hK K
              refine norm_ (a' := ?_) ?_ ?_
              rotate_left
              ·show Act.put _ (some 66) _ = _
               simp only [Act.put, List.setIfInBounds_toArray, List.set_cons_zero, List.set_cons_succ, i64_w, i32_w]
               rfl
              refine one_ (i := 7) (N := some 67) #[true, true, true, true, true, true, true, true, false, false] rfl rfl (one_of HT_.out (by kernel_rfl)) (by decide) (fun K hK => ?_)
              refine value_ (w1 := ?_) (v := ?_) (by rfl) rfl ?_ ?_
              rotate_left 2
              ·go_simp
               constructor
               ·rfl
               ·rfl
              refine hK.out _ _ ⟨(blk_cell (blk_alloc BK500.out _) 0).trans rfl, (blk_cell (blk_alloc BK500.out _) 1).trans rfl, (blk_cell (blk_alloc BK500.out _) 2).trans rfl, (World.cell?_alloc_lt _ _ _ (World.block_lt_of_cell? _ _ (((HB.out.cell (World.block_lt_of_cell? w _ hw513_0)).trans hw513_0)))).trans (((HB.out.cell (World.block_lt_of_cell? w _ hw513_0)).trans hw513_0)), (World.cell?_alloc_lt _ _ _ (World.block_lt_of_cell? _ _ (((HB.out.cell (World.block_lt_of_cell? w _ hw513_1)).trans hw513_1)))).trans (((HB.out.cell (World.block_lt_of_cell? w _ hw513_1)).trans hw513_1))⟩ (fun hHeld => ?_)
              clear hK K
              refine norm_ (a' := ?_) ?_ ?_
              rotate_left
              ·show Act.put _ (some 67) _ = _
               simp only [Act.put, List.setIfInBounds_toArray, List.set_cons_zero, List.set_cons_succ, i64_w, i32_w]
               rfl
              refine one_ (i := 8) (N := some 68) #[true, true, true, true, true, true, true, true, true, false] rfl rfl (one_of HT_.out (by kernel_rfl)) (by decide) (fun K hK => ?_)
              refine Kd.R_append_step k61 (w0 := w) w.heap.size (by rfl) (.tmp 60) (.tmp 67) 40 61 (.agg #[(.int .i64 0), (.int .i64 0), (.string ⟨#[]⟩)]) 32 rfl Tryz.underlying40 info61 rfl (by decide) (by omega) u9 x9_3 (⟨t514, t515, t516⟩ : S61) [.int .i64 t514, .int .i64 t515, .string t516] (fun k_ => k_ ≠ gb500) (fun _ => False) rfl rfl ?aP (fun _ hk => hk.elim) ?aF ?aO ?aB ?aS ?aL ?_
              (case aP => exact k61_mkM _ _ _ (⟨t514, t515, t516⟩ : S61))
              (case aB => exact (by repeat (first | (with_reducible first | exact HB.out | apply yA | apply yN | apply yD | refine below_set ?_ GE500.out) | exact HB.out)))
              (case aF => exact (fun k_ hk => Kd.freshB (g := gb500) (o := .cells #[.int .i64 0, .int .i64 0, .string (⟨#[]⟩ : ByteArray)] 61 (0, 0)) (by (with_reducible repeat (first | refine zN ?_ _ | refine zD ?_ | refine zA ?_ _)); exact BK500.out) k_ hk))
              (case aO => exact (by (with_reducible repeat (first | apply Kd.R_alloc | apply Kd.R_drewN | apply Kd.R_drew)); exact HO_9.out))
              (case aS => exact (below_size (by repeat (first | (with_reducible first | exact HB.out | apply yA | apply yN | apply yD | refine below_set ?_ GE500.out) | exact HB.out))))
              (case aL => have := LMc34.out; omega)
              intro v518 w40 ho hb hg hat
              rw [← Ny517.out] at ho
              have n0_ := Aside0.mk (Kd.S_after (ok := (fun k_ => k_ ≠ gb500)) (by (with_reducible repeat (first | apply Kd.S_alloc | apply Kd.S_drewN | apply Kd.S_drew)); exact Kd.S_mono HO_7.out (fun _ hk => ⟨hk.2, hk.1⟩)) hg hat)
              have n1_ := Aside0.mk (blk_grown (g := gb500) (o := .cells #[.int .i64 0, .int .i64 0, .string (⟨#[]⟩ : ByteArray)] 61 (0, 0)) (by (with_reducible repeat (first | refine zN ?_ _ | refine zD ?_ | refine zA ?_ _)); exact BK500.out) hg (Kd.R_away HO_9.out (fun _ hk => hk)))
              have n2_ := Aside0.mk (hb)
              have n3_ := Aside0.mk (ho)
              clear HO_7
              clear BK500
              clear HB
              clear HO_9
              have HO_7 := n0_
              have BK500 := n1_
              have HB := n2_
              have HO519 := n3_
              clear n0_ n1_ n2_ n3_
              clear ho hb hg hat
              refine hK.out _ _ ⟨(blk_cell BK500.out 0).trans rfl, (blk_cell BK500.out 1).trans rfl, (blk_cell BK500.out 2).trans rfl, ((HB.out.cell (World.block_lt_of_cell? w _ hw513_0)).trans hw513_0), ((HB.out.cell (World.block_lt_of_cell? w _ hw513_1)).trans hw513_1)⟩ (fun hHeld => ?_)
              clear hK K
              refine norm_ (a' := ?_) ?_ ?_
              rotate_left
              ·show Act.put _ (some 68) _ = _
               simp only [Act.put, List.setIfInBounds_toArray, List.set_cons_zero, List.set_cons_succ, i64_w, i32_w]
               rfl
              refine pure_ (i := 9) (N := some 9) (v := ?_) (a' := ?_) #[true, true, true, true, true, true, true, true, true, true] rfl rfl (any_of HT_.out (by kernel_rfl)) (fun _ _ _ h => h) (Or.inl ⟨by rfl, ?_⟩) ?_ ?_
              rotate_left
              ·intro w'
               go_simp
               with_reducible rfl
              rotate_left
              ·simp only [Act.put, List.setIfInBounds_toArray, List.set_cons_zero, List.set_cons_succ, i64_w, i32_w]
               rfl
              refine done_ (done_of HT_.out (by kernel_rfl)) ?_
              try go_wp2
              go_roundg k3
              case measure => have := HK1.out; have := HJ3.out; have := HK3.out; omega
              case rel => exact ⟨(y517), (wrap64 (x10_3 + 1)), (by first | rfl | (simp; done) | (simp [*]; done)), H', ⟨by have := HK1.out; have := HJ3.out; have := HK3.out; omega⟩, ⟨by (with_reducible repeat (first | apply Kd.S_alloc | apply Kd.S_drewN | apply Kd.S_drew)); exact Kd.S_mono HO_7.out (fun _ hk => hk.2)⟩, ⟨by (with_reducible repeat (first | apply Kd.R_alloc | apply Kd.R_drewN | apply Kd.R_drew)); exact Kd.R_mono HO519.out (fun _ hk => trivial)⟩, ⟨by repeat (first | (with_reducible first | exact HB.out | apply yA | apply yN | apply yD | refine below_set ?_ GE500.out) | exact HB.out)⟩⟩
             ·rw [if_neg c34] at H
              exact absurd H (by simp)
            ·rw [if_neg c32] at H
             exact absurd H (by simp)
          ·rw [if_neg c9] at H
           exact absurd H (by simp)
         ·rw [if_neg c8] at H
          exact absurd H (by simp)
        ·rw [if_neg c7] at H
         have c7b0 : decide (x10_3 < (l0.length : Int)) = false := decide_eq_false c7
         clear c7
         by_cases c41 : x7_1.length < 5864062014805
         ·rw [if_pos c41] at H
          have LMc41 := Aside0.mk c41
          clear c41
          obtain ⟨y520, hy520⟩ : ∃ y_ : List (List (S61)), y_ = (x7_1 ++ [x9_3]) := ⟨_, rfl⟩
          replace H : (tacticianref02_TameRows.l0 k3 l0 l1 a2 y520 (wrap64 (x8_1 + 1))) = some r := by first | (rw [hy520]; with_reducible exact H) | (have H2_ := (Option.bind_some _ _).symm.trans H; rw [hy520]; with_reducible exact H2_) | (have H2_ := (Option.bind_some _ _).symm.trans H; with_reducible exact H2_) | with_reducible exact H | (rw [hy520]; exact H) | exact H
          have Ny520 := Aside0.mk hy520
          clear hy520
          have H' := Aside0.mk H
          clear H
          obtain ⟨Ao43, co43, eo43⟩ := Kd.R_slice HO_9.out
          subst eo43
          go_wp2_with (first | ((with_reducible refine gate_builtin (b := .append) (xs := #[.tmp 69, .tmp 71]) rfl ?_); at_builtin; refine Kd.S_append (Kd.slice 61 k61) (w0 := w) w.heap.size rfl (.tmp 69) (.tmp 71) 22 40 (.slice none 0 0) 24 rfl Tryz.underlying22 info40 rfl (by decide) (by omega) u7 x7_1 x9_3 [.slice Ao43 x9_3.length co43] (fun _ => True) (fun k_ => some k_ = (.slice Ao43 x9_3.length co43 : Value).ownBlock) rfl rfl ?aP (fun k_ hk_ => ((Kd.R_mono (ok' := fun k_ => ((fun _ => True)) k_ ∧ some k_ ≠ (u7 : Value).ownBlock) (Kd.R_apart' (HO_9.out) (Kd.S_typed HO_7.out) (by decide)) (fun k_ hk => ⟨trivial, hk.2⟩))).1 k_ hk_.symm) ?aF ?aO ?aB ?aS ?aL ?_; (case aP => exact Kd.M_row (Kd.R_mono (Kd.R_tight rfl (Kd.R_mono (ok' := fun k_ => ((fun _ => True)) k_ ∧ some k_ ≠ (u7 : Value).ownBlock) (Kd.R_apart' (HO_9.out) (Kd.S_typed HO_7.out) (by decide)) (fun k_ hk => ⟨trivial, hk.2⟩))) (fun _ h_ => h_))); (case aB => exact (by repeat (first | (with_reducible first | exact HB.out | apply yA | apply yN | apply yD) | exact HB.out))); (case aF => exact (fun _ _ => trivial)); (case aO => exact (by (with_reducible repeat (first | apply Kd.S_alloc | apply Kd.S_drewN | apply Kd.S_drew)); exact Kd.S_mono HO_7.out (fun k_ hk => ⟨trivial, fun e_ => hk e_⟩))); (case aS => exact (below_size (by repeat (first | (with_reducible first | exact HB.out | apply yA | apply yN | apply yD) | exact HB.out)))); (case aL => have := LMc41.out; omega); intro v521 w42 ho hb hg hat; rw [← Ny520.out] at ho; have n0_ := Aside0.mk (hb); have n1_ := Aside0.mk (ho); clear HB; clear HO_7; clear HO_9; have HB := n0_; have HO522 := n1_; clear n0_ n1_; clear ho hb hg hat))
          go_roundg k3
          case measure => have := HK1.out; have := HJ3.out; have := HK3.out; omega
          case rel => exact ⟨(y520), (wrap64 (x8_1 + 1)), (by first | rfl | (simp; done) | (simp [*]; done)), H', ⟨by have := HK1.out; have := HJ3.out; have := HK3.out; omega⟩, ⟨by (with_reducible repeat (first | apply Kd.S_alloc | apply Kd.S_drewN | apply Kd.S_drew)); exact HO522.out⟩, ⟨by repeat (first | (with_reducible first | exact HB.out | apply yA | apply yN | apply yD) | exact HB.out)⟩⟩
         ·rw [if_neg c41] at H
          exact absurd H (by simp)
     ·replace c6 := Bool.eq_false_iff.mpr c6
      subst c6
      have H1 : (some x7_1) = some r := by rw [if_neg (show ¬ (false = true) by decide)] at H; exact H
      clear H
      have H := H1
      clear H1
      obtain rfl := Option.some.inj H
      go_wp2
      go_ret
      exact ⟨_, by first | rfl | (simp [errW_none, errW_some] <;> rfl) | (simp [*, errW_none, errW_some] <;> rfl), by (with_reducible repeat (first | apply Kd.S_alloc | apply Kd.S_drewN | apply Kd.S_drew)); exact HO_7.out, by repeat (first | (with_reducible first | exact HB.out | apply yA | apply yN | apply yD) | exact HB.out)⟩
end Go.Proofs.YtmhobbdedmjmnaaGreatDoor.Q
end
section
/- Each function reached is shown to return what the plain function beside it computes, wherever that is defined (written by a program of ours for this seat). -/
namespace Go.Proofs.YtmhobbdedmjmnaaGreatDoor.Q
open Go.RowKit Go.Proofs.YtmhobbdedmjmnaaGreatDoorW.PrintWords Go.Proofs.YtmhobbdedmjmnaaGreatDoorW.PrintLast Go.Proofs.YtmhobbdedmjmnaaGreatDoorW.PrintMore
attribute [local go_sem] max2_int min2_int max_two min_two max_three min_three max_four min_four   -- for this text's walks alone
set_option linter.unusedVariables false
set_option linter.unusedSimpArgs false
attribute [local go_sem high] eqA61
def tacticianlaw02_some.f (k : Nat) (l0 : List (List (S61))) (a1 : Int) : Option ((List (List (S61)))) := (tacticianref02_TameRows.f k (([(⟨1, true⟩ : S88), (⟨3, false⟩ : S88), (⟨2, true⟩ : S88)] : List (S88))) l0 a1).bind fun t526 => (some t526)
set_option maxHeartbeats 8000000 in
set_option maxRecDepth 100000 in
theorem tacticianlaw02_some.calls (k : Nat) (A0 : Option Addr) (c0 : Nat) (l0 : List (List (S61))) (a1 : Int) (r : List (List (S61))) (w : World) (hr0 : Kd.C (Kd.slice 61 k61) w A0 l0.length l0) (hc0 : l0.length ≤ c0) (h : tacticianlaw02_some.f k l0 a1 = some r) :
    Calls Tryz.prog 38 #[.slice A0 l0.length c0, .int .i64 a1] w fun e w' => ∃ v0_ : Value, e = .returned (v0_) ∧ Kd.S (Kd.slice 61 k61) 40 w' w.heap.size (fun _ => True) v0_ r ∧ Below w.heap.size w w' := by
  have hu88 := Tryz.underlying88
  have HR0 := Aside0.mk hr0
  have HC0 := Aside0.mk hc0
  clear hr0 hc0
  have HB := Aside0.mk (Below.refl w.heap.size w)
  have H : ((tacticianref02_TameRows.f k (([(⟨1, true⟩ : S88), (⟨3, false⟩ : S88), (⟨2, true⟩ : S88)] : List (S88))) l0 a1).bind fun t526 => (some t526)) = some r := h
  clear h
  obtain ⟨y523, hy523⟩ : ∃ y_ : List (S88), y_ = (([(⟨1, true⟩ : S88), (⟨3, false⟩ : S88), (⟨2, true⟩ : S88)] : List (S88))) := ⟨_, rfl⟩
  replace H : ((tacticianref02_TameRows.f k y523 l0 a1).bind fun t526 => (some t526)) = some r := by first | (rw [hy523]; with_reducible exact H) | (have H2_ := (Option.bind_some _ _).symm.trans H; rw [hy523]; with_reducible exact H2_) | (have H2_ := (Option.bind_some _ _).symm.trans H; with_reducible exact H2_) | with_reducible exact H | (rw [hy523]; exact H) | exact H
  have Ny523 := Aside0.mk hy523
  clear hy523
  replace H := Option.bind_eq_some_iff.mp H
  obtain ⟨t526, A30, H⟩ := H
  replace H : (some t526) = some r := H
  have A3 := Aside0.mk A30
  clear A30
  obtain rfl := Option.some.inj H
  go_enter Tryz.func38, Tryz.ntmps38
  go_wp2_with (first | ((with_reducible refine gate_dst (N := 8) rfl ?_); refine Kd.R_lit k88 _ 88 ?hg (N := 8) ?hd (xs := ([(⟨1, true⟩ : S88), (⟨3, false⟩ : S88), (⟨2, true⟩ : S88)] : List (S88))) (inner := [.int .i64 1, .bool true, .int .i64 3, .bool false, .int .i64 2, .bool true]) (ok := fun _ => True) (okp := fun _ => True) ?hr ?hp (fun _ hk => hk) trivial (Below.refl _ _) (Nat.le_refl _) (by simp) ?_; (case hd => rfl); (case hg => rfl); (case hr => first | (go_simp; done) | (go_simp; rfl)); (case hp => exact (Reps.c2 (show Kd.M k88 _ _ _ (⟨1, true⟩ : S88) [.int .i64 1, .bool true] from (k88_mkM _ _ _ (⟨1, true⟩ : S88) )) (Reps.c2 (show Kd.M k88 _ _ _ (⟨3, false⟩ : S88) [.int .i64 3, .bool false] from (k88_mkM _ _ _ (⟨3, false⟩ : S88) )) (Reps.c2 (show Kd.M k88 _ _ _ (⟨2, true⟩ : S88) [.int .i64 2, .bool true] from (k88_mkM _ _ _ (⟨2, true⟩ : S88) )) (Reps.none _ _))))); intro v524 w4 ho5 hb hg_ hnew_; clear hg_ hnew_; (first | rw [← Ny523.out] at ho5 | (simp only [Int.reduceToNat] at ho5; rw [← Ny523.out] at ho5)); have n0_ := Aside0.mk (Kd.R_lower ho5 (below_size (by repeat (first | (with_reducible first | exact HB.out | apply yA | apply yN | apply yD) | exact HB.out)))); have n1_ := Aside0.mk (below_step (by repeat (first | (with_reducible first | exact HB.out | apply yA | apply yN | apply yD) | exact HB.out)) hb); clear HB; have HO525 := n0_; have HB := n1_; clear n0_ n1_; clear hb ho5; obtain ⟨Ao6, co6, eo6⟩ := Kd.R_slice HO525.out; subst eo6) | ((with_reducible refine gate_callee (f := 73) rfl ?_); refine goesL_ (some 11) rfl rfl Tryz.func73 (by kernel_rfl) rfl #[.slice Ao6 y523.length co6, .slice A0 l0.length c0, .int .i64 a1] rfl (by (try simp only [List.map_toArray, List.map_cons, List.map_nil]); first | done | rfl | (simp only [List.length_drop, List.length_take]; rfl)) ?_; (with_reducible refine (tacticianref02_TameRows.calls k _ _ y523 _ _ l0 a1 t526 _ ?side1 ?side2 ?side3 ?side4 A3.out).mono ?_); (case side1 => repeat (first | exact (Kd.R_reads' HO525.out).2.2 | (with_reducible refine Kd.C_alloc ?_ _) | (with_reducible refine Kd.C_drewN ?_ _) | (with_reducible refine Kd.C_drew ?_))); (case side2 => exact (Kd.R_reads' HO525.out).2.1); (case side3 => repeat (first | exact (Kd.C_below HR0.out HB.out) | (with_reducible refine Kd.C_alloc ?_ _) | (with_reducible refine Kd.C_drewN ?_ _) | (with_reducible refine Kd.C_drew ?_))); (case side4 => exact HC0.out); rintro e w7 ⟨v527, rfl, ho0, hb⟩; refine ⟨_, rfl, ?_⟩; have n0_ := Aside0.mk (Kd.R_below (by (with_reducible repeat (first | apply Kd.R_alloc | apply Kd.R_drewN | apply Kd.R_drew)); exact HO525.out) hb); have n1_ := Aside0.mk (Kd.S_lower ho0 (below_size (by repeat (first | (with_reducible first | exact HB.out | apply yA | apply yN | apply yD) | exact HB.out)))); have n2_ := Aside0.mk (below_step (by repeat (first | (with_reducible first | exact HB.out | apply yA | apply yN | apply yD) | exact HB.out)) hb); clear HO525; clear HB; have HO525 := n0_; have HO528 := n1_; have HB := n2_; clear n0_ n1_ n2_; (try clear hb); (try clear hb2); (try clear hk); (try clear hi); (try clear ho0)))
  go_ret
  exact ⟨_, by first | rfl | (simp [errW_none, errW_some] <;> rfl) | (simp [*, errW_none, errW_some] <;> rfl), by (with_reducible repeat (first | apply Kd.S_alloc | apply Kd.S_drewN | apply Kd.S_drew)); exact HO528.out, by repeat (first | (with_reducible first | exact HB.out | apply yA | apply yN | apply yD) | exact HB.out)⟩
def rows_Distinct.f (l0 : List (List V)) : Option (List (List V) × Int) := if smallE [l0] = 0 then (if okR l0 = true then some (oneR l0, 0) else none) else some ([], smallE [l0])
set_option maxHeartbeats 2000000 in
theorem rows_Distinct.calls (A0 : Option Addr) (c0 : Nat) (l0 : List (List V)) (r1 : List (List V)) (r2 : Int) (w : World) (hr0 : Kd.C (Kd.slice 61 k61) w A0 l0.length l0) (hc0 : l0.length ≤ c0) (h : rows_Distinct.f l0 = some (r1, r2)) :
    Calls Tryz.prog 40 #[.slice A0 l0.length c0] w fun e w' => ∃ v0_ : Value, e = .returned (.tuple #[v0_, .int .i64 r2]) ∧ Kd.S (Kd.slice 61 k61) 40 w' w.heap.size (fun _ => True) v0_ r1 ∧ Below w.heap.size w w' := by
  unfold rows_Distinct.f at h
  have HS := Aside0.mk (fun W hb => small_one A0 c0 l0 w W hr0 hc0 hb)
  by_cases hs : smallE [l0] = 0
  · rw [if_pos hs] at h
    by_cases hk : okR l0 = true
    case neg => rw [if_neg hk] at h; cases h
    rw [if_pos hk] at h
    simp only [Option.some.injEq, Prod.mk.injEq] at h
    obtain ⟨rfl, rfl⟩ := h
    rw [hs] at HS
    have HI := Aside0.mk (fun W (hb : Below w.heap.size w W) => rows_Once.calls A0 c0 l0 (oneR l0) W (Kd.C_below hr0 hb) hc0 (by unfold rows_Once.f; rw [if_pos hk]))
    clear hr0 hc0 hs hk
    generalize oneR l0 = res at HI ⊢
    generalize l0.length = n0 at HS HI ⊢
    go_enter Tryz.func40, Tryz.ntmps40
    go_wp2_with (first
      | (go_at_call 52; refine (HS.out _ (Below.refl _ _)).mono ?_; rintro e w1 ⟨rfl, hb1⟩; have HB1 := Aside0.mk hb1; clear hb1)
      | (go_at_call 74; refine (HI.out _ HB1.out).mono ?_; rintro e w2 ⟨v2, rfl, hv2, hb2⟩; have HV2 := Aside0.mk (Kd.S_lower hv2 HB1.out.size); have HB2 := Aside0.mk (below_step HB1.out hb2); clear hv2 hb2))
    go_ret2
    exact ⟨_, rfl, HV2.out, HB2.out⟩
  · rw [if_neg hs] at h
    simp only [Option.some.injEq, Prod.mk.injEq] at h
    obtain ⟨rfl, rfl⟩ := h
    have hs2 : (smallE [l0] != 0) = true := by simpa using hs
    clear hr0 hc0 hs
    generalize smallE [l0] = x at HS hs2 ⊢
    generalize l0.length = n0 at HS ⊢
    go_enter Tryz.func40, Tryz.ntmps40
    go_wp2_with (go_at_call 52; refine (HS.out _ (Below.refl _ _)).mono ?_; rintro e w1 ⟨rfl, hb1⟩)
    go_ret2
    exact ⟨_, rfl, Kd.S_nil _ _ _ _ _, hb1⟩
-- NOT PRINTED: function 8 (tacticianlaw02_RowsOwn)
def api_Value_76.l0 : Nat → List (S61) → List (S61) → Int → Int → Option (Bool)
  | 0, _, _, _, _ => none
  | k + 1, x0, x1, x12, x13 => if x13 < x12 then (if 0 ≤ x13 then (if x13 < (x0.length : Int) then (if x13 < (x1.length : Int) then (if (!(((rd_T61 x0 x13).f0) == ((rd_T61 x1 x13).f0)) || (!(((rd_T61 x0 x13).f1) == ((rd_T61 x1 x13).f1)) || (!((((rd_T61 x0 x13).f2).toList) == (((rd_T61 x1 x13).f2).toList))))) = true then (some false) else (api_Value_76.l0 k x0 x1 x12 (wrap64 (x13 + 1)))) else (none)) else (none)) else (none)) else (some true)
def api_Value_76.f (k : Nat) (l0 : List (S61)) (l1 : List (S61)) : Option (Bool) := if (l0.length : Int) = (l1.length : Int) then (api_Value_76.l0 k l0 l1 (l0.length : Int) 0) else (some false)
set_option maxHeartbeats 8000000 in
set_option maxRecDepth 100000 in
theorem api_Value_76.calls (k : Nat) (A0 : Option Addr) (c0 : Nat) (l0 : List (S61)) (A1 : Option Addr) (c1 : Nat) (l1 : List (S61)) (r : Bool) (w : World) (hr0 : Kd.C k61 w A0 l0.length l0) (hc0 : l0.length ≤ c0) (hr1 : Kd.C k61 w A1 l1.length l1) (hc1 : l1.length ≤ c1) (h : api_Value_76.f k l0 l1 = some r) :
    Calls Tryz.prog 76 #[.slice A0 l0.length c0, .slice A1 l1.length c1] w fun e w' => e = .returned (.bool r) ∧ Drawn0 w w' := by
  have hu61 := Tryz.underlying61
  have HR0 := Aside0.mk hr0
  have HC0 := Aside0.mk hc0
  clear hr0 hc0
  have HR1 := Aside0.mk hr1
  have HC1 := Aside0.mk hc1
  clear hr1 hc1
  have H : (if (l0.length : Int) = (l1.length : Int) then (api_Value_76.l0 k l0 l1 (l0.length : Int) 0) else (some false)) = some r := h
  clear h
  by_cases c3 : (l0.length : Int) = (l1.length : Int)
  · rw [if_pos c3] at H
    have c3b0 : ((l0.length : Int) == (l1.length : Int)) = true := beq_iff_eq.mpr c3
    have c3b1 : ((l0.length : Int) != (l1.length : Int)) = false := bne_eq_false_iff_eq.mpr c3
    have c3b2 : (l0.length == l1.length) = true := by first | simpa using c3 | (simp at c3 ⊢; omega)
    clear c3
    have H' := Aside0.mk H
    clear H
    go_enter Tryz.func76, Tryz.ntmps76
    go_wp2
    repeat (go_quiet (fail); try go_wp2)
    go_loopg [13] k (fun kq v13 w' => ∃ (x13_1 : Int), v13 = .int .i64 x13_1 ∧ Aside0 (api_Value_76.l0 kq l0 l1 (l0.length : Int) x13_1 = some r) ∧ Aside0 (kq ≤ k) ∧ Drawn0 w w')
    case atStart => exact ⟨(0), (by first | rfl | (simp; done) | (simp [*]; done)), H', ⟨Nat.le_refl _⟩, by repeat (first | exact Drawn0.refl _ | apply Drawn0.step)⟩
    case round =>
      clear H'
      try clear c1
      try clear p2
      try clear c3
      try clear c3b0
      try clear c3b1
      try clear c3b2
      obtain ⟨x13_1, rfl, HA, HK1, ⟨m1, rfl⟩⟩ := hrel
      cases gk with
      | zero => exact absurd HA.out (by simp [api_Value_76.l0])
      | succ k1 =>
        have H := HA.out
        clear HA
        simp only [api_Value_76.l0] at H
        by_cases c4 : x13_1 < (l0.length : Int)
        · rw [if_pos c4] at H
          have c4b0 : decide (x13_1 < (l0.length : Int)) = true := decide_eq_true c4
          clear c4
          by_cases c5 : 0 ≤ x13_1
          · rw [if_pos c5] at H
            have c5b0 : decide (0 ≤ x13_1) = true := decide_eq_true c5
            clear c5
            by_cases c6 : x13_1 < (l0.length : Int)
            · rw [if_pos c6] at H
              have c6b0 : decide (x13_1 < (l0.length : Int)) = true := decide_eq_true c6
              clear c6
              by_cases c7 : x13_1 < (l1.length : Int)
              · rw [if_pos c7] at H
                have c7b0 : decide (x13_1 < (l1.length : Int)) = true := decide_eq_true c7
                clear c7
                by_cases c8 : (!(((rd_T61 l0 x13_1).f0) == ((rd_T61 l1 x13_1).f0)) || (!(((rd_T61 l0 x13_1).f1) == ((rd_T61 l1 x13_1).f1)) || (!((((rd_T61 l0 x13_1).f2).toList) == (((rd_T61 l1 x13_1).f2).toList))))) = true
                · rw [if_pos c8] at H
                  have c8b0 : (!(((rd_T61 l0 x13_1).f0) == ((rd_T61 l1 x13_1).f0)) || (!(((rd_T61 l0 x13_1).f1) == ((rd_T61 l1 x13_1).f1)) || (!((((rd_T61 l0 x13_1).f2).toList) == (((rd_T61 l1 x13_1).f2).toList))))) = true := c8
                  clear c8
                  obtain rfl := Option.some.inj H
                  have p541 : 0 ≤ (x13_1 : Int) := of_decide_eq_true (by first | (with_reducible assumption) | assumption)
                  have q541 : x13_1 < (l0.length : Int) := of_decide_eq_true (by first | (with_reducible assumption) | assumption)
                  obtain ⟨ad541, e541, hx541_0, hx541_1, hx541_2⟩ := at_T61 HR0.out x13_1 p541 q541
                  cases e541
                  replace p541 := eq_true p541
                  replace q541 := eq_true q541
                  have p542 : 0 ≤ (x13_1 : Int) := of_decide_eq_true (by first | (with_reducible assumption) | assumption)
                  have q542 : x13_1 < (l1.length : Int) := of_decide_eq_true (by first | (with_reducible assumption) | assumption)
                  obtain ⟨ad542, e542, hx542_0, hx542_1, hx542_2⟩ := at_T61 HR1.out x13_1 p542 q542
                  cases e542
                  replace p542 := eq_true p542
                  replace q542 := eq_true q542
                  go_wp2
                  repeat (go_quiet (fail); try go_wp2)
                  go_ret
                  exact ⟨by first | rfl | (simp; done) | (simp [*]; done), by repeat (first | exact Drawn0.refl _ | apply Drawn0.step)⟩
                · rw [if_neg c8] at H
                  have c8b0 : (!(((rd_T61 l0 x13_1).f0) == ((rd_T61 l1 x13_1).f0)) || (!(((rd_T61 l0 x13_1).f1) == ((rd_T61 l1 x13_1).f1)) || (!((((rd_T61 l0 x13_1).f2).toList) == (((rd_T61 l1 x13_1).f2).toList))))) = false := by simpa using c8
                  clear c8
                  have H' := Aside0.mk H
                  clear H
                  have p541 : 0 ≤ (x13_1 : Int) := of_decide_eq_true (by first | (with_reducible assumption) | assumption)
                  have q541 : x13_1 < (l0.length : Int) := of_decide_eq_true (by first | (with_reducible assumption) | assumption)
                  obtain ⟨ad541, e541, hx541_0, hx541_1, hx541_2⟩ := at_T61 HR0.out x13_1 p541 q541
                  cases e541
                  replace p541 := eq_true p541
                  replace q541 := eq_true q541
                  have p542 : 0 ≤ (x13_1 : Int) := of_decide_eq_true (by first | (with_reducible assumption) | assumption)
                  have q542 : x13_1 < (l1.length : Int) := of_decide_eq_true (by first | (with_reducible assumption) | assumption)
                  obtain ⟨ad542, e542, hx542_0, hx542_1, hx542_2⟩ := at_T61 HR1.out x13_1 p542 q542
                  cases e542
                  replace p542 := eq_true p542
                  replace q542 := eq_true q542
                  go_wp2
                  repeat (go_quiet (fail); try go_wp2)
                  go_roundg k1
                  case measure => have := HK1.out; omega
                  case rel => exact ⟨(wrap64 (x13_1 + 1)), (by first | rfl | (simp; done) | (simp [*]; done)), H', ⟨by have := HK1.out; omega⟩, by repeat (first | exact Drawn0.refl _ | apply Drawn0.step)⟩
              · rw [if_neg c7] at H
                exact absurd H (by simp)
            · rw [if_neg c6] at H
              exact absurd H (by simp)
          · rw [if_neg c5] at H
            exact absurd H (by simp)
        · rw [if_neg c4] at H
          have c4b0 : decide (x13_1 < (l0.length : Int)) = false := decide_eq_false c4
          clear c4
          obtain rfl := Option.some.inj H
          go_wp2
          repeat (go_quiet (fail); try go_wp2)
          go_ret
          exact ⟨by first | rfl | (simp; done) | (simp [*]; done), by repeat (first | exact Drawn0.refl _ | apply Drawn0.step)⟩
  · rw [if_neg c3] at H
    have c3b0 : ((l0.length : Int) == (l1.length : Int)) = false := beq_eq_false_iff_ne.mpr c3
    have c3b1 : ((l0.length : Int) != (l1.length : Int)) = true := bne_iff_ne.mpr c3
    have c3b2 : (l0.length == l1.length) = false := by first | simpa using c3 | (simp at c3 ⊢; omega)
    obtain rfl := Option.some.inj H
    go_enter Tryz.func76, Tryz.ntmps76
    go_wp2
    repeat (go_quiet (fail); try go_wp2)
    go_ret
    exact ⟨by first | rfl | (simp; done) | (simp [*]; done), by repeat (first | exact Drawn0.refl _ | apply Drawn0.step)⟩
theorem dec_cons {α : Type} [DecidableEq α] (x y : α) (l r : List α) : decide (x :: l = y :: r) = (decide (x = y) && decide (l = r)) := by
  by_cases e : x = y
  · by_cases e2 : l = r
    · subst e e2; simp
    · simp [e, e2]
  · simp [e]
theorem v_ne (x y : V) : (!(x.f0 == y.f0) || (!(x.f1 == y.f1) || !(x.f2.toList == y.f2.toList))) = !decide (x = y) := by
  by_cases h : x = y
  · subst h; simp
  · rw [decide_eq_false h, Bool.not_false]
    obtain ⟨a, b, c⟩ := x
    obtain ⟨a', b', c'⟩ := y
    by_cases h0 : a = a'
    · by_cases h1 : b = b'
      · have h2 : ¬ c.toList = c'.toList := fun e => h (by
          rw [ByteArray.toList_eq, ByteArray.toList_eq] at e
          rw [h0, h1, ba_ext e])
        simp [h2]
      · simp [h1]
    · simp [h0]
theorem eqRow_l0 (a b : List V) (hl : a.length = b.length) (hn : a.length ≤ 9223372036854775807) : ∀ (d i k : Nat), i + d = a.length → d < k →
    api_Value_76.l0 k a b (a.length : Int) (i : Int) = some (decide (a.drop i = b.drop i)) := by
  intro d
  induction d with
  | zero =>
    intro i k hi hk
    obtain ⟨k, rfl⟩ : ∃ m, k = m + 1 := ⟨k - 1, by omega⟩
    rw [api_Value_76.l0, if_neg (by omega), List.drop_of_length_le (by omega), List.drop_of_length_le (by omega)]
    rfl
  | succ d ih =>
    intro i k hi hk
    obtain ⟨k, rfl⟩ : ∃ m, k = m + 1 := ⟨k - 1, by omega⟩
    have h1 : i < a.length := by omega
    have h2 : i < b.length := by omega
    rw [api_Value_76.l0, if_pos (by omega), if_pos (by omega), if_pos (by omega), if_pos (by omega), rd_at a i h1, rd_at b i h2, v_ne, List.drop_eq_getElem_cons h1, List.drop_eq_getElem_cons h2]
    by_cases h : a[i] = b[i]
    · rw [decide_eq_true h, Bool.not_true, if_neg (by decide), wrap_small (n := (i : Int) + 1) (by omega) (by omega), show ((i : Int) + 1) = ((i + 1 : Nat) : Int) by omega, ih (i + 1) k (by omega) (by omega), dec_cons, decide_eq_true h, Bool.true_and]
    · rw [decide_eq_false h, Bool.not_false, if_pos rfl, dec_cons, decide_eq_false h, Bool.false_and]
def api_Value_76_s.f (l0 : List V) (l1 : List V) : Option Bool := some (decide (l0 = l1))
theorem api_Value_76_s.calls (A0 : Option Addr) (c0 : Nat) (l0 : List V) (A1 : Option Addr) (c1 : Nat) (l1 : List V) (r : Bool) (w : World) (hr0 : Kd.C k61 w A0 l0.length l0) (hc0 : l0.length ≤ c0) (hr1 : Kd.C k61 w A1 l1.length l1) (hc1 : l1.length ≤ c1) (h : api_Value_76_s.f l0 l1 = some r) :
    Calls Tryz.prog 76 #[.slice A0 l0.length c0, .slice A1 l1.length c1] w fun e w' => e = .returned (.bool r) ∧ Drawn0 w w' := by
  refine api_Value_76.calls (l0.length + 1) A0 c0 l0 A1 c1 l1 r w hr0 hc0 hr1 hc1 ?_
  rw [← h]
  unfold api_Value_76.f api_Value_76_s.f
  by_cases e : l0.length = l1.length
  · rw [if_pos (by omega)]
    exact eqRow_l0 l0 l1 e hr0.2.1 l0.length 0 (l0.length + 1) (by omega) (by omega)
  · rw [if_neg (by omega), decide_eq_false fun e' => e (by rw [e'])]
theorem row_cell {w : World} {A : Option Addr} {l : List (List V)} (h : Kd.C (Kd.slice 61 k61) w A l.length l) (k : Nat) (hk : k < l.length) :
    ∃ ad A1 c1, A = some ad ∧ w.cell? (ad.add k) = some (.slice A1 l[k].length c1) ∧ l[k].length ≤ c1 ∧ Kd.C k61 w A1 l[k].length l[k] := by
  obtain ⟨ad, e1, hcs⟩ := h.2.2 (by omega)
  obtain ⟨cs, hcs1, ⟨A1, c1, rfl, hle1, hC1⟩, hcs3⟩ := hcs k l[k] (List.getElem?_eq_getElem hk)
  refine ⟨ad, A1, c1, e1, ?_, hle1, hC1⟩
  have h9 := hcs3 0 _ rfl
  rw [show k * (Kd.slice 61 k61).sz + 0 = k from Nat.mul_one k] at h9
  exact h9
set_option maxRecDepth 100000 in
set_option maxHeartbeats 2000000 in
theorem eqFuncR.calls (g : Nat) (lb : Array Value) (eg : ∀ args w, (callFunc g args).run Tryz.prog w = .ok (.enter g args) w) (A0 A1 : Option Addr) (c0 c1 : Nat) (l0 l1 : List (List V)) (w : World)
    (hr0 : Kd.C (Kd.slice 61 k61) w A0 l0.length l0) (hr1 : Kd.C (Kd.slice 61 k61) w A1 l1.length l1) (hlen : l0.length ≤ 4611686018427387904)
    (hp : ∀ (x y : List V) (A B : Option Addr) (c d : Nat) (W : World), x.length ≤ c → Kd.C k61 W A x.length x → y.length ≤ d → Kd.C k61 W B y.length y →
      Calls Tryz.prog g (#[.slice A x.length c, .slice B y.length d] ++ lb) W fun e w' => e = .returned (.bool (decide (x = y))) ∧ Below W.heap.size W w') :
    Calls Tryz.prog 114 #[.slice A0 l0.length c0, .slice A1 l1.length c1, .func (.func g) #[] lb] w fun e w' => e = .returned (.bool (decide (l0 = l1))) ∧ Below w.heap.size w w' := by
  by_cases hl : l0.length = l1.length
  case neg =>
    have hz : ((l0.length : Int) != (l1.length : Int)) = true := bne_iff_ne.mpr (by omega)
    have hd : decide (l0 = l1) = false := decide_eq_false fun e => hl (by rw [e])
    rw [hd]
    clear hr0 hr1 hp hlen hd hl
    generalize l0.length = n at *
    generalize l1.length = m at *
    go_enter Tryz.func114, Tryz.ntmps114
    go_wp2
    go_ret
    exact ⟨rfl, Below.refl _ _⟩
  have HR0 := Aside0.mk hr0
  have HR1 := Aside0.mk hr1
  have HP := Aside0.mk hp
  have HL := Aside0.mk hl
  have HB := Aside0.mk (Below.refl w.heap.size w)
  rw [← hl]
  clear hr0 hr1 hp hl
  obtain ⟨n, hn⟩ : ∃ n, n = l0.length := ⟨_, rfl⟩
  rw [← hn]
  have hle : n ≤ 4611686018427387904 := by omega
  have HN := Aside0.mk hn
  clear hn hlen
  have hz : ((n : Int) != (n : Int)) = false := by simp
  go_enter Tryz.func114, Tryz.ntmps114
  go_wp2
  go_loopg [7, 8, 9, 17] n (fun gg _ _ _ s17 wr => ∃ kk : Nat, kk ≤ n ∧ n - kk ≤ gg ∧ s17 = .int .i64 kk ∧ Aside0 (Below w.heap.size w wr) ∧ Aside0 (decide (l0 = l1) = decide (l0.drop kk = l1.drop kk)))
  case atStart => exact ⟨0, Nat.zero_le _, by omega, rfl, HB, ⟨rfl⟩⟩
  case round =>
    clear HB
    obtain ⟨kk, hkk, hg, rfl, HB, HA⟩ := hrel
    by_cases hlt : kk < n
    · have hltz : (kk : Int) < (n : Int) := by omega
      have h0 : kk < l0.length := by have := HN.out; omega
      have h1 : kk < l1.length := by have := HN.out; have := HL.out; omega
      obtain ⟨ad, Ax, cx, rfl, hx0, hlx, hCx⟩ := row_cell HR0.out kk h0
      obtain ⟨bd, Ay, cy, rfl, hy0, hly, hCy⟩ := row_cell HR1.out kk h1
      replace hx0 := (HB.out.cell (World.block_lt_of_cell? w _ hx0)).trans hx0
      replace hy0 := (HB.out.cell (World.block_lt_of_cell? w _ hy0)).trans hy0
      have hcall := HP.out l0[kk] l1[kk] Ax Ay cx cy wr hlx (Kd.C_below hCx HB.out) hly (Kd.C_below hCy HB.out)
      have HE : Aside0 (decide (l0 = l1) = (decide (l0[kk] = l1[kk]) && decide (l0.drop (kk + 1) = l1.drop (kk + 1)))) := ⟨by
        rw [HA.out, List.drop_eq_getElem_cons h0, List.drop_eq_getElem_cons h1, dec_cons]⟩
      clear hlx hly hCx hCy
      generalize decide (l0[kk] = l1[kk]) = q at hcall HE
      generalize l0[kk].length = xlen at hx0 hcall
      generalize l1[kk].length = ylen at hy0 hcall
      clear h0 h1
      have HC := Aside0.mk hcall
      clear hcall HA
      cases q with
      | false =>
        go_wp2_with (go_at_fn g; refine HC.out.mono ?_; rintro e w' ⟨rfl, hb'⟩)
        go_ret
        exact ⟨by rw [HE.out]; rfl, HB.out.trans (hb'.mono HB.out.size)⟩
      | true =>
        go_wp2_with (go_at_fn g; refine HC.out.mono ?_; rintro e w' ⟨rfl, hb'⟩)
        go_roundg (n - (kk + 1))
        case measure => omega
        case rel => exact ⟨kk + 1, by omega, by omega, by go_num, ⟨HB.out.trans (hb'.mono HB.out.size)⟩, ⟨by rw [HE.out, Bool.true_and]⟩⟩
    · have hltz : decide (kk < n) = false := by simpa using hlt
      have HE : Aside0 (decide (l0 = l1) = true) := ⟨by
        rw [HA.out, List.drop_of_length_le (by have := HN.out; omega), List.drop_of_length_le (by have := HN.out; have := HL.out; omega)]
        rfl⟩
      clear hlt HA
      go_wp2
      go_ret
      exact ⟨by rw [HE.out]; rfl, HB.out⟩
theorem alikeEq.calls (x y : List V) (A B : Option Addr) (c d : Nat) (W : World) (hc : x.length ≤ c) (hx : Kd.C k61 W A x.length x) (hd : y.length ≤ d) (hy : Kd.C k61 W B y.length y) :
    Calls Tryz.prog 115 (#[.slice A x.length c, .slice B y.length d] ++ #[]) W fun e w' => e = .returned (.bool (decide (x = y))) ∧ Below W.heap.size W w' := by
  have HC := Aside0.mk (api_Value_76_s.calls A c x B d y (decide (x = y)) W hx hc hy hd rfl)
  clear hc hx hd hy
  generalize decide (x = y) = q at HC ⊢
  generalize x.length = n at HC ⊢
  generalize y.length = m at HC ⊢
  go_enter Tryz.func115, Tryz.ntmps115
  go_wp2_with (go_at_call 76; refine HC.out.mono ?_; rintro e w' ⟨rfl, hb'⟩)
  go_ret
  obtain ⟨q, rfl⟩ := hb'.out
  exact ⟨rfl, yN (Below.refl _ _) q⟩
def rows_Alike.f (l0 : List (List V)) (l1 : List (List V)) : Option Bool := if l0.length ≤ 4611686018427387904 then some (decide (l0 = l1)) else none
theorem rows_Alike.calls (A0 : Option Addr) (c0 : Nat) (l0 : List (List V)) (A1 : Option Addr) (c1 : Nat) (l1 : List (List V)) (r : Bool) (w : World) (hr0 : Kd.C (Kd.slice 61 k61) w A0 l0.length l0) (_hc0 : l0.length ≤ c0) (hr1 : Kd.C (Kd.slice 61 k61) w A1 l1.length l1) (_hc1 : l1.length ≤ c1) (h : rows_Alike.f l0 l1 = some r) :
  Calls Tryz.prog 75 #[.slice A0 l0.length c0, .slice A1 l1.length c1] w fun e w' => e = .returned (.bool r) ∧ Below w.heap.size w w' := by
 unfold rows_Alike.f at h
 by_cases hs : l0.length ≤ 4611686018427387904
 case neg => rw [if_neg hs] at h; cases h
 rw [if_pos hs] at h
 obtain rfl := Option.some.inj h
 have eg : ∀ args w, (callFunc 115 args).run Tryz.prog w = .ok (.enter 115 args) w := enters_of Tryz.func115 (by kernel_rfl) rfl
 have HC := Aside0.mk (eqFuncR.calls 115 #[] eg A0 A1 c0 c1 l0 l1 w hr0 hr1 hs fun x y A B c d W hc hx hd hy => alikeEq.calls x y A B c d W hc hx hd hy)
 clear hr0 hr1 hs h eg _hc0 _hc1
 generalize decide (l0 = l1) = q at HC ⊢
 generalize l0.length = n at HC ⊢
 generalize l1.length = m at HC ⊢
 go_enter Tryz.func75, Tryz.ntmps75
 go_wp2_with (go_at_call 114; refine HC.out.mono ?_; rintro e w' ⟨rfl, hb'⟩)
 go_ret
 exact ⟨rfl, hb'⟩
end Go.Proofs.YtmhobbdedmjmnaaGreatDoor.Q
end
section
/- Each function reached is shown to return what the plain function beside it computes, wherever that is defined (written by a program of ours for this seat). -/
namespace Go.Proofs.YtmhobbdedmjmnaaGreatDoor.Q
open Go.RowKit Go.Proofs.YtmhobbdedmjmnaaGreatDoorW.PrintWords Go.Proofs.YtmhobbdedmjmnaaGreatDoorW.PrintLast Go.Proofs.YtmhobbdedmjmnaaGreatDoorW.PrintMore
attribute [local go_sem] max2_int min2_int max_two min_two max_three min_three max_four min_four   -- for this text's walks alone
set_option linter.unusedVariables false
set_option linter.unusedSimpArgs false
def rows_Same.f (l0 : List (List (S61))) (l1 : List (List (S61))) : Option (Bool × Int) := (rows_small.f (([l0, l1] : List (List (List (S61)))))).bind fun t546 => (if t546 = 0 then ((rows_Sorted.f l0).bind fun t547 => ((rows_Sorted.f l1).bind fun t550 => ((rows_Alike.f t547 t550).bind fun t553 => (some (t553, 0))))) else (some (false, t546)))
set_option maxHeartbeats 8000000 in
set_option maxRecDepth 100000 in
theorem rows_Same.calls (P0_ : Nat → Prop) (A0 : Option Addr) (c0 : Nat) (l0 : List (List (S61))) (P1_ : Nat → Prop) (A1 : Option Addr) (c1 : Nat) (l1 : List (List (S61))) (r1 : Bool) (r2 : Int) (w : World) (hs0 : Kd.V (Kd.slice 61 k61) 40 w w.heap.size (fun k_ => P0_ k_) (.slice A0 l0.length c0) l0) (hs1 : Kd.V (Kd.slice 61 k61) 40 w w.heap.size (fun k_ => P1_ k_) (.slice A1 l1.length c1) l1) (h : rows_Same.f l0 l1 = some (r1, r2)) :
    Calls Tryz.prog 42 #[.slice A0 l0.length c0, .slice A1 l1.length c1] w fun e w' => e = .returned (.tuple #[.bool r1, .int .i64 r2]) ∧ Below w.heap.size w w' := by
  have HO0 := Aside0.mk (show Kd.V (Kd.slice 61 k61) 40 w w.heap.size (fun k_ => ((P0_ k_ ∨ P1_ k_) ∨ w.heap.size ≤ k_)) (.slice A0 l0.length c0) l0 from Kd.V_mono hs0 (fun k_ hk => .inl (.inl hk)))
  have HO1 := Aside0.mk (show Kd.V (Kd.slice 61 k61) 40 w w.heap.size (fun k_ => ((P0_ k_ ∨ P1_ k_) ∨ w.heap.size ≤ k_)) (.slice A1 l1.length c1) l1 from Kd.V_mono hs1 (fun k_ hk => .inl (.inr hk)))
  have HB := Aside0.mk (Below.refl w.heap.size w)
  have H : ((rows_small.f (([l0, l1] : List (List (List (S61)))))).bind fun t546 => (if t546 = 0 then ((rows_Sorted.f l0).bind fun t547 => ((rows_Sorted.f l1).bind fun t550 => ((rows_Alike.f t547 t550).bind fun t553 => (some (t553, 0))))) else (some (false, t546)))) = some (r1, r2) := h
  clear h
  obtain ⟨y543, hy543⟩ : ∃ y_ : List (List (List (S61))), y_ = (([l0, l1] : List (List (List (S61))))) := ⟨_, rfl⟩
  replace H : ((rows_small.f y543).bind fun t546 => (if t546 = 0 then ((rows_Sorted.f l0).bind fun t547 => ((rows_Sorted.f l1).bind fun t550 => ((rows_Alike.f t547 t550).bind fun t553 => (some (t553, 0))))) else (some (false, t546)))) = some (r1, r2) := by first | (rw [hy543]; with_reducible exact H) | (have H2_ := (Option.bind_some _ _).symm.trans H; rw [hy543]; with_reducible exact H2_) | (have H2_ := (Option.bind_some _ _).symm.trans H; with_reducible exact H2_) | with_reducible exact H | (rw [hy543]; exact H) | exact H
  have Ny543 := Aside0.mk hy543
  clear hy543
  replace H := Option.bind_eq_some_iff.mp H
  obtain ⟨t546, A30, H⟩ := H
  replace H : (if t546 = 0 then ((rows_Sorted.f l0).bind fun t547 => ((rows_Sorted.f l1).bind fun t550 => ((rows_Alike.f t547 t550).bind fun t553 => (some (t553, 0))))) else (some (false, t546))) = some (r1, r2) := H
  have A3 := Aside0.mk A30
  clear A30
  by_cases c4 : t546 = 0
  · rw [if_pos c4] at H
    have c4b0 : (t546 == 0) = true := beq_iff_eq.mpr c4
    have c4b1 : (t546 != 0) = false := bne_eq_false_iff_eq.mpr c4
    clear c4
    replace H := Option.bind_eq_some_iff.mp H
    obtain ⟨t547, A50, H⟩ := H
    replace H : ((rows_Sorted.f l1).bind fun t550 => ((rows_Alike.f t547 t550).bind fun t553 => (some (t553, 0)))) = some (r1, r2) := H
    have A5 := Aside0.mk A50
    clear A50
    replace H := Option.bind_eq_some_iff.mp H
    obtain ⟨t550, A60, H⟩ := H
    replace H : ((rows_Alike.f t547 t550).bind fun t553 => (some (t553, 0))) = some (r1, r2) := H
    have A6 := Aside0.mk A60
    clear A60
    replace H := Option.bind_eq_some_iff.mp H
    obtain ⟨t553, A70, H⟩ := H
    replace H : (some (t553, 0)) = some (r1, r2) := H
    have A7 := Aside0.mk A70
    clear A70
    simp only [Option.some.injEq, Prod.mk.injEq] at H
    obtain ⟨rfl, rfl⟩ := H
    go_enter Tryz.func42, Tryz.ntmps42
    go_wp2_with (first | ((with_reducible refine gate_dst (N := 9) rfl ?_); refine Kd.N_lit (Kd.slice 40 (Kd.slice 61 k61)) _ 22 ?hg (N' := 9) ?hd (xs := ([l0, l1] : List (List (List (S61))))) (inner := [.slice A0 l0.length c0, .slice A1 l1.length c1]) (ok := (fun k_ => ((P0_ k_ ∨ P1_ k_) ∨ w.heap.size ≤ k_))) (okp := (fun k_ => ((P0_ k_ ∨ P1_ k_) ∨ w.heap.size ≤ k_))) ?hr ?hp (fun _ hk => hk) ((show ∀ k_, w.heap.size ≤ k_ → (fun k_ => ((P0_ k_ ∨ P1_ k_) ∨ w.heap.size ≤ k_)) k_ from fun k_ hk => (.inr (Nat.le_trans (below_size (by repeat (first | (with_reducible first | exact HB.out | apply yA | apply yN | apply yD) | exact HB.out))) hk))) _ (Nat.le_refl _)) (Below.refl _ _) (Nat.le_refl _) (by simp) ?_; (case hd => rfl); (case hg => rfl); (case hr => first | (go_simp; done) | (go_simp; rfl)); (case hp => exact (Reps.one (show Kd.FK (Kd.slice 40 (Kd.slice 61 k61)) _ _ l0 [.slice A0 l0.length c0] from (Kd.FK_slice_mk (Kd.V_reads' (Kd.V_mono (ok' := (fun k_ => ((P0_ k_ ∨ P1_ k_) ∨ w.heap.size ≤ k_))) (HO0.out) (fun k_ hk => hk))).2.1 (Kd.V_F (Kd.V_mono (ok' := (fun k_ => ((P0_ k_ ∨ P1_ k_) ∨ w.heap.size ≤ k_))) (HO0.out) (fun k_ hk => hk))))) (Reps.one (show Kd.FK (Kd.slice 40 (Kd.slice 61 k61)) _ _ l1 [.slice A1 l1.length c1] from (Kd.FK_slice_mk (Kd.V_reads' (Kd.V_mono (ok' := (fun k_ => ((P0_ k_ ∨ P1_ k_) ∨ w.heap.size ≤ k_))) (HO1.out) (fun k_ hk => hk))).2.1 (Kd.V_F (Kd.V_mono (ok' := (fun k_ => ((P0_ k_ ∨ P1_ k_) ∨ w.heap.size ≤ k_))) (HO1.out) (fun k_ hk => hk))))) (Reps.none _ _)))); intro v544 w8 ho9 hb hg_ hnew_; clear hg_ hnew_; (first | rw [← Ny543.out] at ho9 | (simp only [Int.reduceToNat] at ho9; rw [← Ny543.out] at ho9)); have n0_ := Aside0.mk (Kd.V_elder' (by (with_reducible repeat (first | apply Kd.V_alloc | apply Kd.V_drewN | apply Kd.V_drew)); exact HO0.out) (Kd.N_base ho9) hb); have n1_ := Aside0.mk (Kd.V_elder' (by (with_reducible repeat (first | apply Kd.V_alloc | apply Kd.V_drewN | apply Kd.V_drew)); exact HO1.out) (Kd.N_base ho9) hb); have n2_ := Aside0.mk (Kd.N_lower ho9 (below_size (by repeat (first | (with_reducible first | exact HB.out | apply yA | apply yN | apply yD) | exact HB.out)))); have n3_ := Aside0.mk (below_step (by repeat (first | (with_reducible first | exact HB.out | apply yA | apply yN | apply yD) | exact HB.out)) hb); clear HO0; clear HO1; clear HB; have HO0 := n0_; have HO1 := n1_; have HO545 := n2_; have HB := n3_; clear n0_ n1_ n2_ n3_; clear hb ho9; obtain ⟨Ao10, co10, eo10⟩ := Kd.N_slice HO545.out; subst eo10) | ((with_reducible refine gate_callee (f := 52) rfl ?_); refine goesL_ (some 10) rfl rfl Tryz.func52 (by kernel_rfl) rfl #[.slice Ao10 y543.length co10] rfl (by (try simp only [List.map_toArray, List.map_cons, List.map_nil]); first | done | rfl | (simp only [List.length_drop, List.length_take]; rfl)) ?_; (with_reducible refine (rows_small.calls _ _ y543 t546 _ ?side1 ?side2 A3.out).mono ?_); (case side1 => repeat (first | exact (Kd.N_reads' HO545.out).2.2 | (with_reducible refine Kd.C_alloc ?_ _) | (with_reducible refine Kd.C_drewN ?_ _) | (with_reducible refine Kd.C_drew ?_))); (case side2 => exact (Kd.N_reads' HO545.out).2.1); rintro e w11 ⟨rfl, hb⟩; refine ⟨_, rfl, ?_⟩; have n0_ := Aside0.mk (Kd.V_below (by (with_reducible repeat (first | apply Kd.V_alloc | apply Kd.V_drewN | apply Kd.V_drew)); exact HO0.out) hb); have n1_ := Aside0.mk (Kd.V_below (by (with_reducible repeat (first | apply Kd.V_alloc | apply Kd.V_drewN | apply Kd.V_drew)); exact HO1.out) hb); have n2_ := Aside0.mk (Kd.N_below (by (with_reducible repeat (first | apply Kd.N_alloc | apply Kd.N_drewN | apply Kd.N_drew)); exact HO545.out) hb); have n3_ := Aside0.mk (below_step (by repeat (first | (with_reducible first | exact HB.out | apply yA | apply yN | apply yD) | exact HB.out)) hb); clear HO0; clear HO1; clear HO545; clear HB; have HO0 := n0_; have HO1 := n1_; have HO545 := n2_; have HB := n3_; clear n0_ n1_ n2_ n3_; (try clear hb); (try clear hb2); (try clear hk); (try clear hi)) | ((with_reducible refine gate_callee (f := 64) rfl ?_); refine goesL_ (some 15) rfl rfl Tryz.func64 (by kernel_rfl) rfl #[.slice A0 l0.length c0] rfl (by (try simp only [List.map_toArray, List.map_cons, List.map_nil]); first | done | rfl | (simp only [List.length_drop, List.length_take]; rfl)) ?_; (with_reducible refine (rows_Sorted.calls _ _ l0 t547 _ ?side1 ?side2 A5.out).mono ?_); (case side1 => repeat (first | exact (Kd.V_reads' HO0.out).2.2 | (with_reducible refine Kd.C_alloc ?_ _) | (with_reducible refine Kd.C_drewN ?_ _) | (with_reducible refine Kd.C_drew ?_))); (case side2 => exact (Kd.V_reads' HO0.out).2.1); rintro e w12 ⟨v548, rfl, ho0, hb⟩; refine ⟨_, rfl, ?_⟩; have n0_ := Aside0.mk (Kd.V_elder' (by (with_reducible repeat (first | apply Kd.V_alloc | apply Kd.V_drewN | apply Kd.V_drew)); exact HO0.out) (Kd.N_base (Kd.S_N ho0)) hb); have n1_ := Aside0.mk (Kd.V_elder' (by (with_reducible repeat (first | apply Kd.V_alloc | apply Kd.V_drewN | apply Kd.V_drew)); exact HO1.out) (Kd.N_base (Kd.S_N ho0)) hb); have n2_ := Aside0.mk (Kd.N_elder' (by (with_reducible repeat (first | apply Kd.N_alloc | apply Kd.N_drewN | apply Kd.N_drew)); exact HO545.out) (Kd.N_base (Kd.S_N ho0)) hb); have n3_ := Aside0.mk (Kd.N_lower (Kd.N_mono (ok' := fun k_ => ((P0_ k_ ∨ P1_ k_) ∨ w.heap.size ≤ k_) ∧ some k_ ≠ (.slice Ao10 y543.length co10 : Value).ownBlock) (Kd.S_N (Kd.S_bound ho0)) (fun k_ hk_ => ⟨(.inr (Nat.le_trans (below_size (by repeat (first | (with_reducible first | exact HB.out | apply yA | apply yN | apply yD) | exact HB.out))) hk_.2.1)), (Kd.fresh' (Kd.N_lt (by (with_reducible repeat (first | apply Kd.N_alloc | apply Kd.N_drewN | apply Kd.N_drew)); exact HO545.out)) k_ hk_.2.1)⟩)) (below_size (by repeat (first | (with_reducible first | exact HB.out | apply yA | apply yN | apply yD) | exact HB.out)))); have n4_ := Aside0.mk (below_step (by repeat (first | (with_reducible first | exact HB.out | apply yA | apply yN | apply yD) | exact HB.out)) hb); clear HO0; clear HO1; clear HO545; clear HB; have HO0 := n0_; have HO1 := n1_; have HO545 := n2_; have HO549 := n3_; have HB := n4_; clear n0_ n1_ n2_ n3_ n4_; (try clear hb); (try clear hb2); (try clear hk); (try clear hi); (try clear ho0)) | ((with_reducible refine gate_callee (f := 64) rfl ?_); refine goesL_ (some 17) rfl rfl Tryz.func64 (by kernel_rfl) rfl #[.slice A1 l1.length c1] rfl (by (try simp only [List.map_toArray, List.map_cons, List.map_nil]); first | done | rfl | (simp only [List.length_drop, List.length_take]; rfl)) ?_; (with_reducible refine (rows_Sorted.calls _ _ l1 t550 _ ?side1 ?side2 A6.out).mono ?_); (case side1 => repeat (first | exact (Kd.V_reads' HO1.out).2.2 | (with_reducible refine Kd.C_alloc ?_ _) | (with_reducible refine Kd.C_drewN ?_ _) | (with_reducible refine Kd.C_drew ?_))); (case side2 => exact (Kd.V_reads' HO1.out).2.1); rintro e w13 ⟨v551, rfl, ho0, hb⟩; refine ⟨_, rfl, ?_⟩; have n0_ := Aside0.mk (Kd.V_elder' (by (with_reducible repeat (first | apply Kd.V_alloc | apply Kd.V_drewN | apply Kd.V_drew)); exact HO0.out) (Kd.N_base (Kd.S_N ho0)) hb); have n1_ := Aside0.mk (Kd.V_elder' (by (with_reducible repeat (first | apply Kd.V_alloc | apply Kd.V_drewN | apply Kd.V_drew)); exact HO1.out) (Kd.N_base (Kd.S_N ho0)) hb); have n2_ := Aside0.mk (Kd.N_elder' (by (with_reducible repeat (first | apply Kd.N_alloc | apply Kd.N_drewN | apply Kd.N_drew)); exact HO545.out) (Kd.N_base (Kd.S_N ho0)) hb); have n3_ := Aside0.mk (Kd.N_elder' (by (with_reducible repeat (first | apply Kd.N_alloc | apply Kd.N_drewN | apply Kd.N_drew)); exact HO549.out) (Kd.N_base (Kd.S_N ho0)) hb); have n4_ := Aside0.mk (Kd.N_lower (Kd.N_mono (ok' := fun k_ => ((P0_ k_ ∨ P1_ k_) ∨ w.heap.size ≤ k_) ∧ some k_ ≠ (.slice Ao10 y543.length co10 : Value).ownBlock ∧ some k_ ≠ (v548 : Value).ownBlock) (Kd.S_N (Kd.S_bound ho0)) (fun k_ hk_ => ⟨(.inr (Nat.le_trans (below_size (by repeat (first | (with_reducible first | exact HB.out | apply yA | apply yN | apply yD) | exact HB.out))) hk_.2.1)), (Kd.fresh' (Kd.N_lt (by (with_reducible repeat (first | apply Kd.N_alloc | apply Kd.N_drewN | apply Kd.N_drew)); exact HO545.out)) k_ hk_.2.1), (Kd.fresh' (Kd.N_lt (by (with_reducible repeat (first | apply Kd.N_alloc | apply Kd.N_drewN | apply Kd.N_drew)); exact HO549.out)) k_ hk_.2.1)⟩)) (below_size (by repeat (first | (with_reducible first | exact HB.out | apply yA | apply yN | apply yD) | exact HB.out)))); have n5_ := Aside0.mk (below_step (by repeat (first | (with_reducible first | exact HB.out | apply yA | apply yN | apply yD) | exact HB.out)) hb); clear HO0; clear HO1; clear HO545; clear HO549; clear HB; have HO0 := n0_; have HO1 := n1_; have HO545 := n2_; have HO549 := n3_; have HO552 := n4_; have HB := n5_; clear n0_ n1_ n2_ n3_ n4_ n5_; (try clear hb); (try clear hb2); (try clear hk); (try clear hi); (try clear ho0); obtain ⟨Ao14, co14, eo14⟩ := Kd.N_slice HO549.out; subst eo14; obtain ⟨Ao15, co15, eo15⟩ := Kd.N_slice HO552.out; subst eo15) | ((with_reducible refine gate_callee (f := 75) rfl ?_); refine goesL_ (some 18) rfl rfl Tryz.func75 (by kernel_rfl) rfl #[.slice Ao14 t547.length co14, .slice Ao15 t550.length co15] rfl (by (try simp only [List.map_toArray, List.map_cons, List.map_nil]); first | done | rfl | (simp only [List.length_drop, List.length_take]; rfl)) ?_; (with_reducible refine (rows_Alike.calls _ _ t547 _ _ t550 t553 _ ?side1 ?side2 ?side3 ?side4 A7.out).mono ?_); (case side1 => repeat (first | exact (Kd.N_reads' HO549.out).2.2 | (with_reducible refine Kd.C_alloc ?_ _) | (with_reducible refine Kd.C_drewN ?_ _) | (with_reducible refine Kd.C_drew ?_))); (case side2 => exact (Kd.N_reads' HO549.out).2.1); (case side3 => repeat (first | exact (Kd.N_reads' HO552.out).2.2 | (with_reducible refine Kd.C_alloc ?_ _) | (with_reducible refine Kd.C_drewN ?_ _) | (with_reducible refine Kd.C_drew ?_))); (case side4 => exact (Kd.N_reads' HO552.out).2.1); rintro e w16 ⟨rfl, hb⟩; refine ⟨_, rfl, ?_⟩; have n0_ := Aside0.mk (Kd.V_below (by (with_reducible repeat (first | apply Kd.V_alloc | apply Kd.V_drewN | apply Kd.V_drew)); exact HO0.out) hb); have n1_ := Aside0.mk (Kd.V_below (by (with_reducible repeat (first | apply Kd.V_alloc | apply Kd.V_drewN | apply Kd.V_drew)); exact HO1.out) hb); have n2_ := Aside0.mk (Kd.N_below (by (with_reducible repeat (first | apply Kd.N_alloc | apply Kd.N_drewN | apply Kd.N_drew)); exact HO545.out) hb); have n3_ := Aside0.mk (Kd.N_below (by (with_reducible repeat (first | apply Kd.N_alloc | apply Kd.N_drewN | apply Kd.N_drew)); exact HO549.out) hb); have n4_ := Aside0.mk (Kd.N_below (by (with_reducible repeat (first | apply Kd.N_alloc | apply Kd.N_drewN | apply Kd.N_drew)); exact HO552.out) hb); have n5_ := Aside0.mk (below_step (by repeat (first | (with_reducible first | exact HB.out | apply yA | apply yN | apply yD) | exact HB.out)) hb); clear HO0; clear HO1; clear HO545; clear HO549; clear HO552; clear HB; have HO0 := n0_; have HO1 := n1_; have HO545 := n2_; have HO549 := n3_; have HO552 := n4_; have HB := n5_; clear n0_ n1_ n2_ n3_ n4_ n5_; (try clear hb); (try clear hb2); (try clear hk); (try clear hi)))
    go_ret2
    exact ⟨by first | rfl | (simp [errW_none, errW_some] <;> rfl) | (simp [*, errW_none, errW_some] <;> rfl), by repeat (first | (with_reducible first | exact HB.out | apply yA | apply yN | apply yD) | exact HB.out)⟩
  · rw [if_neg c4] at H
    have c4b0 : (t546 == 0) = false := beq_eq_false_iff_ne.mpr c4
    have c4b1 : (t546 != 0) = true := bne_iff_ne.mpr c4
    simp only [Option.some.injEq, Prod.mk.injEq] at H
    obtain ⟨rfl, rfl⟩ := H
    go_enter Tryz.func42, Tryz.ntmps42
    go_wp2_with (first | ((with_reducible refine gate_dst (N := 9) rfl ?_); refine Kd.N_lit (Kd.slice 40 (Kd.slice 61 k61)) _ 22 ?hg (N' := 9) ?hd (xs := ([l0, l1] : List (List (List (S61))))) (inner := [.slice A0 l0.length c0, .slice A1 l1.length c1]) (ok := (fun k_ => ((P0_ k_ ∨ P1_ k_) ∨ w.heap.size ≤ k_))) (okp := (fun k_ => ((P0_ k_ ∨ P1_ k_) ∨ w.heap.size ≤ k_))) ?hr ?hp (fun _ hk => hk) ((show ∀ k_, w.heap.size ≤ k_ → (fun k_ => ((P0_ k_ ∨ P1_ k_) ∨ w.heap.size ≤ k_)) k_ from fun k_ hk => (.inr (Nat.le_trans (below_size (by repeat (first | (with_reducible first | exact HB.out | apply yA | apply yN | apply yD) | exact HB.out))) hk))) _ (Nat.le_refl _)) (Below.refl _ _) (Nat.le_refl _) (by simp) ?_; (case hd => rfl); (case hg => rfl); (case hr => first | (go_simp; done) | (go_simp; rfl)); (case hp => exact (Reps.one (show Kd.FK (Kd.slice 40 (Kd.slice 61 k61)) _ _ l0 [.slice A0 l0.length c0] from (Kd.FK_slice_mk (Kd.V_reads' (Kd.V_mono (ok' := (fun k_ => ((P0_ k_ ∨ P1_ k_) ∨ w.heap.size ≤ k_))) (HO0.out) (fun k_ hk => hk))).2.1 (Kd.V_F (Kd.V_mono (ok' := (fun k_ => ((P0_ k_ ∨ P1_ k_) ∨ w.heap.size ≤ k_))) (HO0.out) (fun k_ hk => hk))))) (Reps.one (show Kd.FK (Kd.slice 40 (Kd.slice 61 k61)) _ _ l1 [.slice A1 l1.length c1] from (Kd.FK_slice_mk (Kd.V_reads' (Kd.V_mono (ok' := (fun k_ => ((P0_ k_ ∨ P1_ k_) ∨ w.heap.size ≤ k_))) (HO1.out) (fun k_ hk => hk))).2.1 (Kd.V_F (Kd.V_mono (ok' := (fun k_ => ((P0_ k_ ∨ P1_ k_) ∨ w.heap.size ≤ k_))) (HO1.out) (fun k_ hk => hk))))) (Reps.none _ _)))); intro v544 w17 ho18 hb hg_ hnew_; clear hg_ hnew_; (first | rw [← Ny543.out] at ho18 | (simp only [Int.reduceToNat] at ho18; rw [← Ny543.out] at ho18)); have n0_ := Aside0.mk (Kd.V_elder' (by (with_reducible repeat (first | apply Kd.V_alloc | apply Kd.V_drewN | apply Kd.V_drew)); exact HO0.out) (Kd.N_base ho18) hb); have n1_ := Aside0.mk (Kd.V_elder' (by (with_reducible repeat (first | apply Kd.V_alloc | apply Kd.V_drewN | apply Kd.V_drew)); exact HO1.out) (Kd.N_base ho18) hb); have n2_ := Aside0.mk (Kd.N_lower ho18 (below_size (by repeat (first | (with_reducible first | exact HB.out | apply yA | apply yN | apply yD) | exact HB.out)))); have n3_ := Aside0.mk (below_step (by repeat (first | (with_reducible first | exact HB.out | apply yA | apply yN | apply yD) | exact HB.out)) hb); clear HO0; clear HO1; clear HB; have HO0 := n0_; have HO1 := n1_; have HO545 := n2_; have HB := n3_; clear n0_ n1_ n2_ n3_; clear hb ho18; obtain ⟨Ao19, co19, eo19⟩ := Kd.N_slice HO545.out; subst eo19) | ((with_reducible refine gate_callee (f := 52) rfl ?_); refine goesL_ (some 10) rfl rfl Tryz.func52 (by kernel_rfl) rfl #[.slice Ao19 y543.length co19] rfl (by (try simp only [List.map_toArray, List.map_cons, List.map_nil]); first | done | rfl | (simp only [List.length_drop, List.length_take]; rfl)) ?_; (with_reducible refine (rows_small.calls _ _ y543 t546 _ ?side1 ?side2 A3.out).mono ?_); (case side1 => repeat (first | exact (Kd.N_reads' HO545.out).2.2 | (with_reducible refine Kd.C_alloc ?_ _) | (with_reducible refine Kd.C_drewN ?_ _) | (with_reducible refine Kd.C_drew ?_))); (case side2 => exact (Kd.N_reads' HO545.out).2.1); rintro e w20 ⟨rfl, hb⟩; refine ⟨_, rfl, ?_⟩; have n0_ := Aside0.mk (Kd.V_below (by (with_reducible repeat (first | apply Kd.V_alloc | apply Kd.V_drewN | apply Kd.V_drew)); exact HO0.out) hb); have n1_ := Aside0.mk (Kd.V_below (by (with_reducible repeat (first | apply Kd.V_alloc | apply Kd.V_drewN | apply Kd.V_drew)); exact HO1.out) hb); have n2_ := Aside0.mk (Kd.N_below (by (with_reducible repeat (first | apply Kd.N_alloc | apply Kd.N_drewN | apply Kd.N_drew)); exact HO545.out) hb); have n3_ := Aside0.mk (below_step (by repeat (first | (with_reducible first | exact HB.out | apply yA | apply yN | apply yD) | exact HB.out)) hb); clear HO0; clear HO1; clear HO545; clear HB; have HO0 := n0_; have HO1 := n1_; have HO545 := n2_; have HB := n3_; clear n0_ n1_ n2_ n3_; (try clear hb); (try clear hb2); (try clear hk); (try clear hi)))
    go_ret2
    exact ⟨by first | rfl | (simp [errW_none, errW_some] <;> rfl) | (simp [*, errW_none, errW_some] <;> rfl), by repeat (first | (with_reducible first | exact HB.out | apply yA | apply yN | apply yD) | exact HB.out)⟩
theorem cnt_consT {α : Type} [DecidableEq α] (a : α) (l : List α) (x : α) : cnt (a :: l) x = (if a = x then 1 else 0) + cnt l x := by
  unfold cnt
  rw [List.count_cons]
  by_cases h : a = x
  · rw [if_pos h, if_pos (by simpa using h), Nat.add_comm]
  · rw [if_neg h, if_neg (by simpa using h), Nat.zero_add, Nat.add_zero]
theorem smallE_len {l : List (List V)} (h : smallE [l] = 0) : l.length ≤ 20000 := by
  unfold smallE at h
  simp only [List.any_cons, List.any_nil, Bool.or_false] at h
  by_cases h1 : 20000 < l.length
  · have : largeR l = true := by unfold largeR; rw [decide_eq_true h1, Bool.true_or]
    rw [if_pos this] at h; cases h
  · omega
def rows_Times.f (l0 : List (List V)) (l1 : List V) : Option (Int × Int) := some (if 16 < l1.length then (0, 2) else if smallE [l0] ≠ 0 then (0, smallE [l0]) else if smallE [[l1]] ≠ 0 then (0, smallE [[l1]]) else (((cnt l0 l1 : Nat) : Int), 0))
set_option maxRecDepth 100000 in
set_option maxHeartbeats 4000000 in
theorem rows_Times.calls (A0 : Option Addr) (c0 : Nat) (l0 : List (List V)) (A1 : Option Addr) (c1 : Nat) (l1 : List V) (r1 : Int) (r2 : Int) (w : World) (hr0 : Kd.C (Kd.slice 61 k61) w A0 l0.length l0) (hc0 : l0.length ≤ c0) (hr1 : Kd.C k61 w A1 l1.length l1) (hc1 : l1.length ≤ c1) (h : rows_Times.f l0 l1 = some (r1, r2)) :
  Calls Tryz.prog 43 #[.slice A0 l0.length c0, .slice A1 l1.length c1] w fun e w' => e = .returned (.tuple #[.int .i64 r1, .int .i64 r2]) ∧ Below w.heap.size w w' := by
 replace h := Option.some.inj h
 by_cases h0 : 16 < l1.length
 ·rw [if_pos h0] at h
  obtain ⟨rfl, rfl⟩ := Prod.mk.inj h
  have z0 : decide ((16 : Int) < (l1.length : Int)) = true := decide_eq_true (by omega)
  clear hr0 hc0 hr1 hc1 h h0
  generalize l0.length = n at *
  generalize l1.length = m at *
  go_enter Tryz.func43, Tryz.ntmps43
  go_wp2
  go_ret2
  exact ⟨rfl, Below.refl _ _⟩
 rw [if_neg h0] at h
 have z0 : decide ((16 : Int) < (l1.length : Int)) = false := decide_eq_false (by omega)
 have HS := Aside0.mk (small_one A0 c0 l0 w w hr0 hc0 (Below.refl _ _))
 by_cases h1 : smallE [l0] ≠ 0
 ·rw [if_pos h1] at h
  obtain ⟨rfl, rfl⟩ := Prod.mk.inj h
  have z1 : (smallE [l0] != 0) = true := by simpa using h1
  clear hr0 hc0 hr1 hc1 h h0 h1
  generalize smallE [l0] = q at *
  generalize l0.length = n at *
  generalize l1.length = m at *
  go_enter Tryz.func43, Tryz.ntmps43
  go_wp2_with (go_at_call 52; refine HS.out.mono ?_; rintro e w1 ⟨rfl, hb1⟩)
  go_ret2
  exact ⟨rfl, hb1⟩
 rw [if_neg h1] at h
 have h1' : smallE [l0] = 0 := by simpa using h1
 have hle := smallE_len h1'
 rw [h1'] at HS
 have HS2 := Aside0.mk (fun W (hb : Below w.heap.size w W) => small_lit1 A1 c1 l1 W (Kd.C_below hr1 hb) hc1)
 by_cases h2 : smallE [[l1]] ≠ 0
 ·rw [if_pos h2] at h
  obtain ⟨rfl, rfl⟩ := Prod.mk.inj h
  have z1 : (smallE [[l1]] != 0) = true := by simpa using h2
  clear hr0 hc0 hr1 hc1 h h0 h1 h1' h2 hle
  generalize smallE [[l1]] = q at *
  generalize l0.length = n at *
  generalize l1.length = m at *
  go_enter Tryz.func43, Tryz.ntmps43
  go_wp2_with (first
   | (go_at_call 52; refine HS.out.mono ?_; rintro e w1 ⟨rfl, hb1⟩; clear HS; have HB1 := Aside0.mk hb1; clear hb1)
   | (go_at_call 52; refine (HS2.out _ HB1.out).mono ?_; rintro e w2 ⟨rfl, hb2⟩; have HB2 := Aside0.mk (below_step HB1.out hb2); clear hb2))
  go_ret2
  exact ⟨rfl, HB2.out⟩
 rw [if_neg h2] at h
 have h2' : smallE [[l1]] = 0 := by simpa using h2
 rw [h2'] at HS2
 obtain ⟨rfl, rfl⟩ := Prod.mk.inj h
 have HR0 := Aside0.mk hr0
 have HQ := Aside0.mk (fun (x : List V) A c W (hx : Kd.C k61 W A x.length x) hxc (hb : Below w.heap.size w W) => api_Value_76_s.calls A c x A1 c1 l1 (decide (x = l1)) W hx hxc (Kd.C_below hr1 hb) hc1 rfl)
 obtain ⟨n, hn⟩ : ∃ n, n = l0.length := ⟨_, rfl⟩
 rw [← hn] at HS hle ⊢
 have HN := Aside0.mk hn
 clear hr0 hc0 hr1 hc1 h h0 h1 h1' h2 h2' hn
 generalize l1.length = m at *
 go_enter Tryz.func43, Tryz.ntmps43
 go_wp2_with (first
   | (go_at_call 52; refine HS.out.mono ?_; rintro e w1 ⟨rfl, hb1⟩; clear HS; have HB1 := Aside0.mk hb1; clear hb1)
   | (go_at_call 52; refine (HS2.out _ HB1.out).mono ?_; rintro e w2 ⟨rfl, hb2⟩; have HB2 := Aside0.mk (below_step HB1.out hb2); clear hb2))
 go_loopg [8, 10, 29] n (fun gg s8 _ s29 wr => ∃ (kk cc : Nat), kk ≤ n ∧ cc ≤ kk ∧ n - kk ≤ gg ∧ s8 = .int .i64 cc ∧ s29 = .int .i64 kk ∧ Aside0 (Below w.heap.size w wr) ∧ Aside0 (cnt l0 l1 = cc + cnt (l0.drop kk) l1))
 case atStart => exact ⟨0, 0, Nat.zero_le _, Nat.le_refl _, by omega, rfl, rfl, HB2, ⟨by rw [List.drop_zero, Nat.zero_add]⟩⟩
 case round =>
  clear HB2 HB1 HS2
  obtain ⟨kk, cc, hkk, hcc, hg, rfl, rfl, HB, HA⟩ := hrel
  by_cases hlt : kk < n
  ·have hltz : (kk : Int) < (n : Int) := by omega
   have h0 : kk < l0.length := by have := HN.out; omega
   obtain ⟨ad, Ax, cx, rfl, hx0, hlx, hCx⟩ := row_cell HR0.out kk h0
   replace hx0 := (HB.out.cell (World.block_lt_of_cell? w _ hx0)).trans hx0
   have hcall := HQ.out l0[kk] Ax cx wr (Kd.C_below hCx HB.out) hlx HB.out
   have HE : Aside0 (cnt l0 l1 = cc + ((if l0[kk] = l1 then 1 else 0) + cnt (l0.drop (kk + 1)) l1)) := ⟨by
    rw [HA.out, List.drop_eq_getElem_cons h0, cnt_consT]⟩
   have hq : (if l0[kk] = l1 then 1 else 0) = (if decide (l0[kk] = l1) = true then 1 else 0) := by
    by_cases e : l0[kk] = l1
    ·simp [e]
    ·simp [e]
   rw [hq] at HE
   clear hlx hCx hq HA
   generalize decide (l0[kk] = l1) = q at hcall HE
   generalize l0[kk].length = xlen at hx0 hcall
   clear h0
   have HC := Aside0.mk hcall
   clear hcall
   cases q with
   | false =>
    go_wp2_with (go_at_call 76; refine HC.out.mono ?_; rintro e w' ⟨rfl, hd'⟩; obtain ⟨nd, rfl⟩ := hd'.out)
    go_roundg (n - (kk + 1))
    case measure => omega
    case rel => exact ⟨kk + 1, cc, by omega, by omega, by omega, rfl, by go_num, ⟨yN HB.out nd⟩, ⟨by rw [HE.out, if_neg (by decide), Nat.zero_add]⟩⟩
   | true =>
    go_wp2_with (go_at_call 76; refine HC.out.mono ?_; rintro e w' ⟨rfl, hd'⟩; obtain ⟨nd, rfl⟩ := hd'.out)
    go_roundg (n - (kk + 1))
    case measure => omega
    case rel => exact ⟨kk + 1, cc + 1, by omega, by omega, by omega, by go_num, by go_num, ⟨yN HB.out nd⟩, ⟨by rw [HE.out]; simp [Nat.add_assoc]⟩⟩
  ·have hltz : decide (kk < n) = false := by simpa using hlt
   have HE : Aside0 (cnt l0 l1 = cc) := ⟨by
    rw [HA.out, List.drop_of_length_le (by have := HN.out; omega)]
    rfl⟩
   clear hlt HA
   go_wp2
   go_ret2
   exact ⟨by rw [HE.out]; rfl, HB.out⟩
end Go.Proofs.YtmhobbdedmjmnaaGreatDoor.Q
end
section
/- What the definition's Equal and Same answer of any two lists of rows; no program in sight. -/
end
section
/- What the program's Same, Times, Distinct, Canonical answer of rows that are not too many; no program in sight. -/
namespace Go.Proofs.YtmhobbdedmjmnaaGreatDoor
open Go.RowKit Go.Proofs.YtmhobbdedmjmnaaGreatDoor.Q Go.Proofs.YtmhobbdedmjmnaaGreatDoorW.PrintWords Go.Proofs.YtmhobbdedmjmnaaGreatDoorW.PrintLast Go.Proofs.YtmhobbdedmjmnaaGreatDoorW.PrintMore
theorem sameF (a b : List (List V)) (ha : RowsOk 100000 a) (hb : RowsOk 100000 b) : rows_Same.f a b = some (if smallE [a, b] = 0 then (decide (canR a = canR b), 0) else (false, smallE [a, b])) := by
  have h1 := ha.1
  unfold rows_Same.f rows_small.f rows_Sorted.f rows_Alike.f
  rw [Option.bind_some]
  by_cases hs : smallE [a, b] = 0
  · rw [if_pos hs, if_pos hs, if_pos (okR_of ha (by omega)), if_pos (okR_of hb (by omega))]
    simp only [Option.bind_some]
    rw [if_pos (by unfold canR; rw [sortBy_length]; omega), Option.bind_some]
  · rw [if_neg hs, if_neg hs]
theorem smallE_row (a : List (List V)) (x : List V) : smallE [a, [x]] = if 16 < x.length then 2 else if smallE [a] ≠ 0 then smallE [a] else smallE [[x]] := by
  have hx : largeR [x] = decide (16 < x.length) := by
    unfold largeR
    simp
  unfold smallE
  simp only [List.any_cons, List.any_nil, Bool.or_false]
  rw [hx]
  by_cases h : 16 < x.length
  · rw [if_pos h, decide_eq_true h, Bool.or_true, if_pos rfl]
  · rw [if_neg h, decide_eq_false h]
    cases largeR a <;> cases wrongR a <;> cases wrongR [x] <;> rfl
theorem timesF (a : List (List V)) (x : List V) : rows_Times.f a x = some (if smallE [a, [x]] = 0 then (((cnt a x : Nat) : Int), 0) else (0, smallE [a, [x]])) := by
  unfold rows_Times.f
  rw [smallE_row]
  by_cases h : 16 < x.length
  · rw [if_pos h, if_pos h, if_neg (by decide)]
  · rw [if_neg h, if_neg h]
    by_cases h1 : smallE [a] ≠ 0
    · rw [if_pos h1, if_pos h1, if_neg h1]
    · rw [if_neg h1, if_neg h1]
      by_cases h2 : smallE [[x]] = 0
      · rw [if_neg (by simpa using h2), if_pos h2]
      · rw [if_pos h2, if_neg h2]
end Go.Proofs.YtmhobbdedmjmnaaGreatDoor
end
section
/- What the word some of the laws on rows answers: right rows of three columns; no program in sight. -/
namespace Go.Proofs.YtmhobbdedmjmnaaGreatDoor
open Go.RowKit Go.Proofs.YtmhobbdedmjmnaaGreatDoor.Q Go.Proofs.YtmhobbdedmjmnaaGreatDoorW.PrintWords Go.Proofs.YtmhobbdedmjmnaaGreatDoorW.PrintLast Go.Proofs.YtmhobbdedmjmnaaGreatDoorW.PrintMore
set_option linter.unusedSimpArgs false
set_option linter.unusedVariables false
/-- what is a value, in few bytes -/
def SmallV (a b : Int) (c : ByteArray) : Prop := okV a b c = true ∧ c.size ≤ 3
theorem inI64_wrap (n : Int) : inI64 (wrap64 n) = true := by
  refine inI64_mk ?_ ?_ <;> (unfold wrap64; omega)
theorem ab_one (m : Nat) (h : m < 3) : ((⟨#[97, 98, 39]⟩ : ByteArray).extract m (m + 1)).size = 1 ∧ prL ((⟨#[97, 98, 39]⟩ : ByteArray).extract m (m + 1)).data.toList = true := by
  match m, h with
  | 0, _ => decide
  | 1, _ => decide
  | 2, _ => decide
theorem tameAs_loop (t : ByteArray) (p q : Int) : ∀ (d i k : Nat) (acc : ByteArray), i + d = min t.size 3 → d < k → acc.size = i → prL acc.data.toList = true →
    ∃ c, tacticianref01_TameAs.l0 k acc (i : Int) p q t = some (3, 0, c) ∧ c.size ≤ 3 ∧ prL c.data.toList = true := by
  intro d
  induction d with
  | zero =>
    intro i k acc hi hk hs hp
    obtain ⟨k, rfl⟩ : ∃ m, k = m + 1 := ⟨k - 1, by omega⟩
    refine ⟨acc, ?_, by omega, hp⟩
    rw [tacticianref01_TameAs.l0]
    by_cases h : i < t.size
    · rw [if_pos (by omega), if_neg (by omega)]; rfl
    · rw [if_neg (by omega)]; rfl
  | succ d ih =>
    intro i k acc hi hk hs hp
    obtain ⟨k, rfl⟩ : ∃ m, k = m + 1 := ⟨k - 1, by omega⟩
    have hlt : i < t.size := by omega
    have hb := bt_get t i hlt
    generalize t.data.toList[i]'(by rw [Array.length_toList]; exact hlt) = c at hb
    have hm : Int.tmod (c.toNat : Int) 3 = ((c.toNat % 3 : Nat) : Int) := rfl
    have hm3 : c.toNat % 3 < 3 := Nat.mod_lt _ (by omega)
    obtain ⟨h1, h2⟩ := ab_one (c.toNat % 3) hm3
    have he : ((((c.toNat % 3 : Nat) : Int) + 1) % 256) = ((c.toNat % 3 + 1 : Nat) : Int) := by omega
    rw [tacticianref01_TameAs.l0, if_pos (by omega), if_pos (by omega), if_pos (by omega), hb, hm, he, if_pos (by omega), if_pos (by omega), if_pos (by omega), Int.toNat_natCast, Int.toNat_natCast, if_pos (by rw [h1]; omega), wrap_small (n := (i : Int) + 1) (by omega) (by omega), show ((i : Int) + 1) = ((i + 1 : Nat) : Int) by omega]
    refine ih (i + 1) k _ (by omega) (by omega) (by rw [ByteArray.size_append, h1, hs]) ?_
    rw [append_data]
    unfold prL at hp h2 ⊢
    rw [List.all_append, hp, h2]
    rfl
theorem smallV_text {c : ByteArray} (h : c.size ≤ 3) (hp : prL c.data.toList = true) : SmallV 3 0 c := by
  refine ⟨?_, h⟩
  have h2 : c.size ≤ 200 := by omega
  unfold okV isB
  simp [h2, hp]
  decide
theorem tameAs_j0 (x : Bool) (a b : Int) (c : ByteArray) (kd : Int) (nl : Bool) (hb : inI64 b = true) (k : Nat) (hk : 5 ≤ k) : ∃ p, tacticianref01_TameAs.j0 k x a b c kd nl = some p ∧ SmallV p.1 p.2.1 p.2.2 := by
  obtain ⟨k, rfl⟩ : ∃ m, k = m + 1 := ⟨k - 1, by omega⟩
  rw [tacticianref01_TameAs.j0]
  unfold tacticianref01_Null.f tacticianref01_Bool.f tacticianref01_Int.f
  cases x with
  | true => exact ⟨_, rfl, by decide, by decide⟩
  | false =>
    rw [if_neg (by decide)]
    by_cases h2 : kd = 2
    · rw [if_pos h2]
      cases (Int.tmod b 2 != 0) with
      | true => exact ⟨_, rfl, by decide, by decide⟩
      | false => exact ⟨_, rfl, by decide, by decide⟩
    · rw [if_neg h2]
      by_cases h3 : kd = 3
      · rw [if_pos h3]
        obtain ⟨d, e, hs, hp⟩ := tameAs_loop c a b (min c.size 3) 0 k ⟨#[]⟩ (by omega) (by omega) rfl rfl
        exact ⟨_, e, smallV_text hs hp⟩
      · rw [if_neg h3]
        have hi : ∀ n, inI64 n = true → SmallV 1 n ⟨#[]⟩ := fun n hn => ⟨by unfold okV; rw [hn]; rfl, by decide⟩
        split
        · exact ⟨_, rfl, hi _ hb⟩
        · exact ⟨_, rfl, hi _ (inI64_wrap _)⟩
theorem tameAs_ok (a b : Int) (c : ByteArray) (kd : Int) (nl : Bool) (hb : inI64 b = true) (k : Nat) (hk : 5 ≤ k) : ∃ p, tacticianref01_TameAs.f k a b c kd nl = some p ∧ SmallV p.1 p.2.1 p.2.2 := by
  unfold tacticianref01_TameAs.f
  split
  · split
    · exact tameAs_j0 _ a b c kd nl hb k hk
    · exact tameAs_j0 _ a b c kd nl hb k hk
  · exact tameAs_j0 _ a b c kd nl hb k hk
/-- a right row, of few and small values -/
def TameR (r : List V) : Prop := r.length = 3 ∧ ∀ v ∈ r, SmallV v.f0 v.f1 v.f2
theorem tame_l1 (cols : List S88) (hc : cols.length = 3) (raw : List (List V)) (n : Int) (hr : argRows raw) (i : Nat) (hi : i < raw.length) : ∀ (d j k : Nat) (out : List (List V)) (row : List V), j + d = 3 → row.length = j → (∀ v ∈ row, SmallV v.f0 v.f1 v.f2) → out.length ≤ 1000 → 5 ≤ k →
    ∃ row', TameR row' ∧ tacticianref02_TameRows.l1 (k + d + 1) cols raw n out (i : Int) row (j : Int) = tacticianref02_TameRows.l0 k cols raw n (out ++ [row']) (wrap64 ((i : Int) + 1)) := by
  intro d
  induction d with
  | zero =>
    intro j k out row hj hl hv ho hk
    refine ⟨row, ⟨by omega, hv⟩, ?_⟩
    rw [tacticianref02_TameRows.l1, if_neg (by omega), if_pos (by omega)]
  | succ d ih =>
    intro j k out row hj hl hv ho hk
    rw [show k + (d + 1) + 1 = (k + d + 1) + 1 by omega, tacticianref02_TameRows.l1, if_pos (by omega), if_pos (by omega), if_pos (by omega), rdL_at raw i hi]
    have hw : wrap64 ((j : Int) + 1) = ((j + 1 : Nat) : Int) := by rw [wrap_small (n := (j : Int) + 1) (by omega) (by omega)]; omega
    have step : ∀ p : Int × Int × ByteArray, SmallV p.1 p.2.1 p.2.2 → ∃ row', TameR row' ∧ (if row.length < 4398046511104 then tacticianref02_TameRows.l1 (k + d + 1) cols raw n out (i : Int) (row ++ [(⟨p.1, p.2.1, p.2.2⟩ : V)]) (wrap64 ((j : Int) + 1)) else none) = tacticianref02_TameRows.l0 k cols raw n (out ++ [row']) (wrap64 ((i : Int) + 1)) := by
      intro p hp
      rw [if_pos (by omega), hw]
      refine ih (j + 1) k out _ (by omega) (by rw [List.length_append, List.length_singleton, hl]) (fun v hm => ?_) ho hk
      rcases List.mem_append.1 hm with h | h
      · exact hv v h
      · rw [List.mem_singleton.1 h]; exact hp
    by_cases h0 : 0 < raw[i].length
    · have t1 : 0 ≤ Int.tmod (j : Int) (raw[i].length : Int) := Int.tmod_nonneg _ (by omega)
      have t2 : Int.tmod (j : Int) (raw[i].length : Int) < (raw[i].length : Int) := Int.tmod_lt_of_pos _ (by omega)
      rw [if_pos (by omega), if_neg (by omega), if_pos t1, if_pos t2, if_pos (by omega)]
      obtain ⟨p, e, hp⟩ := tameAs_ok (rd_T61 raw[i] (Int.tmod (j : Int) (raw[i].length : Int))).f0 (wrap64 (((rd_T61 raw[i] (Int.tmod (j : Int) (raw[i].length : Int))).f1) + (wrap64 (Int.tdiv (j : Int) (raw[i].length : Int))))) (rd_T61 raw[i] (Int.tmod (j : Int) (raw[i].length : Int))).f2 (rd_T88 cols (j : Int)).f0 (rd_T88 cols (j : Int)).f1 (inI64_wrap _) (k + d + 1) (by omega)
      rw [e, Option.bind_some]
      exact step p hp
    · rw [if_neg (by omega), if_pos (by omega)]
      obtain ⟨p, e, hp⟩ := tameAs_ok 0 0 ⟨#[]⟩ (rd_T88 cols (j : Int)).f0 (rd_T88 cols (j : Int)).f1 (by decide) (k + d + 1) (by omega)
      rw [e, Option.bind_some]
      exact step p hp
theorem tame_l0 (cols : List S88) (hc : cols.length = 3) (raw : List (List V)) (n : Nat) (hn : n ≤ 1000) (hr : argRows raw) : ∀ (d i k : Nat) (out : List (List V)), i + d = min raw.length n → out.length = i → (∀ r ∈ out, TameR r) → 10 * d + 10 ≤ k →
    ∃ L, tacticianref02_TameRows.l0 k cols raw (n : Int) out (i : Int) = some L ∧ L.length ≤ n ∧ ∀ r ∈ L, TameR r := by
  intro d
  induction d with
  | zero =>
    intro i k out hi hl ho hk
    obtain ⟨k, rfl⟩ : ∃ m, k = m + 2 := ⟨k - 2, by omega⟩
    refine ⟨out, ?_, by omega, ho⟩
    rw [tacticianref02_TameRows.l0]
    by_cases h : i < raw.length
    · rw [if_pos (by omega), decide_eq_false (by omega), tacticianref02_TameRows.j1, if_neg (by decide)]
    · rw [if_neg (by omega), tacticianref02_TameRows.j1, if_neg (by decide)]
  | succ d ih =>
    intro i k out hi hl ho hk
    obtain ⟨k, rfl⟩ : ∃ m, k = (m + 3 + 1) + 2 := ⟨k - 6, by omega⟩
    have h1 : i < raw.length := by omega
    obtain ⟨row, hrow, e⟩ := tame_l1 cols hc raw (n : Int) hr i h1 3 0 k out [] (by omega) rfl (fun v h => by cases h) (by omega) (by omega)
    rw [tacticianref02_TameRows.l0, if_pos (by omega), decide_eq_true (by omega), tacticianref02_TameRows.j1, if_pos rfl]
    obtain ⟨L, eL, h2, h3⟩ := ih (i + 1) k (out ++ [row]) (by omega) (by rw [List.length_append, List.length_singleton, hl]) (fun r hm => by
      rcases List.mem_append.1 hm with h | h
      · exact ho r h
      · rw [List.mem_singleton.1 h]; exact hrow) (by omega)
    refine ⟨L, ?_, h2, h3⟩
    refine e.trans ?_
    have hb := hr.2.1
    unfold maxLen at hb
    rw [wrap_small (n := (i : Int) + 1) (by omega) (by omega), show ((i : Int) + 1) = ((i + 1 : Nat) : Int) by omega]
    exact eL
theorem some_at (raw : List (List V)) (hr : argRows raw) (n : Nat) (hn : n ≤ 1000) (k : Nat) (hk : 10 * n + 10 ≤ k) : ∃ L, tacticianlaw02_some.f k raw (n : Int) = some L ∧ L.length ≤ n ∧ ∀ r ∈ L, TameR r := by
  obtain ⟨L, e, h1, h2⟩ := tame_l0 [(⟨1, true⟩ : S88), (⟨3, false⟩ : S88), (⟨2, true⟩ : S88)] rfl raw n hn hr (min raw.length n) 0 k [] (by omega) rfl (fun r h => by cases h) (by omega)
  refine ⟨L, ?_, h1, h2⟩
  unfold tacticianlaw02_some.f tacticianref02_TameRows.f
  rw [show (0 : Int) = ((0 : Nat) : Int) from rfl, e]
  rfl
/-- rows that nothing is wrong with -/
def GoodR (l : List (List V)) : Prop := l.length ≤ 100 ∧ ∀ r ∈ l, TameR r
theorem GoodR.ok {l : List (List V)} (h : GoodR l) : RowsOk 100 l := ⟨h.1, fun r hr => ⟨by have := (h.2 r hr).1; omega, fun v hv => by
  have := (h.2 r hr).2 v hv
  refine ⟨by have := this.2; omega, ?_⟩
  have h2 := this.1
  unfold okV at h2
  rw [Bool.and_eq_true] at h2
  exact h2.2⟩⟩
theorem GoodR.wrong {l : List (List V)} (h : GoodR l) : wrongR l = false := by
  unfold wrongR
  rw [List.any_eq_false]
  intro r hr
  rw [Bool.not_eq_true, List.any_eq_false]
  intro v hv
  have h2 := ((h.2 r hr).2 v hv).1
  unfold okV at h2
  rw [Bool.and_eq_true] at h2
  show ¬ (!isV v) = true
  unfold isV
  rw [h2.1]
  decide
theorem GoodR.large {l : List (List V)} (h : GoodR l) : largeR l = false := by
  unfold largeR
  rw [decide_eq_false (by have := h.1; omega), Bool.false_or, List.any_eq_false]
  intro r hr
  rw [decide_eq_true_eq]
  have := (h.2 r hr).1
  omega
theorem GoodR.small {l : List (List V)} (h : GoodR l) : smallE [l] = 0 := by
  unfold smallE
  simp only [List.any_cons, List.any_nil, Bool.or_false]
  rw [h.large, h.wrong]
  rfl
theorem GoodR.small2 {a b : List (List V)} (ha : GoodR a) (hb : GoodR b) : smallE [a, b] = 0 := by
  unfold smallE
  simp only [List.any_cons, List.any_nil, Bool.or_false]
  rw [ha.large, ha.wrong, hb.large, hb.wrong]
  rfl
theorem GoodR.sub {l r : List (List V)} (h : GoodR l) (hs : ∀ x ∈ r, x ∈ l) (hl : r.length ≤ 100) : GoodR r := ⟨hl, fun x hx => h.2 x (hs x hx)⟩
end Go.Proofs.YtmhobbdedmjmnaaGreatDoor
end
