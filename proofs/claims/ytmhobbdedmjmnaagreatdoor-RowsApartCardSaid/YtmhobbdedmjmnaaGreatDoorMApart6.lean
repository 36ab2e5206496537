/- Lemmas for the claim: contracts of functions and facts about what they compute, part 7 (texts put together, and cut down to what is used, by a program of ours). -/
import Derived.Test.YtmhobbdedmjmnaaGreatDoorMApart5
section
/- Each function reached is shown to return what the plain function beside it computes, wherever that is defined (written by a program of ours for this seat). -/
namespace Go.Proofs.YtmhobbdedmjmnaaGreatDoor.Q
open Go.RowKit Go.Proofs.YtmhobbdedmjmnaaGreatDoorW.PrintWords Go.Proofs.YtmhobbdedmjmnaaGreatDoorW.PrintLast Go.Proofs.YtmhobbdedmjmnaaGreatDoorW.PrintMore
attribute [local go_sem] max2_int min2_int max_two min_two max_three min_three max_four min_four   -- for this text's walks alone
set_option linter.unusedVariables false
set_option linter.unusedSimpArgs false
mutual
def tacticianref02_TameRows.l0 : Nat → List (S88) → List (List (S61)) → Int → List (List (S61)) → Int → Option ((List (List (S61))))
  | 0, _, _, _, _, _ => none
  | k + 1, x0, x1, x2, x7, x8 => if x8 < (x1.length : Int) then (tacticianref02_TameRows.j1 k x0 x1 x2 x7 x8 (decide (x8 < x2))) else (tacticianref02_TameRows.j1 k x0 x1 x2 x7 x8 false)
def tacticianref02_TameRows.j1 : Nat → List (S88) → List (List (S61)) → Int → List (List (S61)) → Int → Bool → Option ((List (List (S61))))
  | 0, _, _, _, _, _, _ => none
  | k + 1, x0, x1, x2, x7, x8, x20 => if x20 = true then (tacticianref02_TameRows.l1 k x0 x1 x2 x7 x8 ([] : List (S61)) 0) else (some x7)
def tacticianref02_TameRows.l1 : Nat → List (S88) → List (List (S61)) → Int → List (List (S61)) → Int → List (S61) → Int → Option ((List (List (S61))))
  | 0, _, _, _, _, _, _, _ => none
  | k + 1, x0, x1, x2, x7, x8, x9, x10 => if x10 < (x0.length : Int) then (if 0 ≤ x8 then (if x8 < (x1.length : Int) then (if ((rd_L3 x1 x8).length : Int) > 0 then (if ((rd_L3 x1 x8).length : Int) = 0 then (none) else (if 0 ≤ (Int.tmod x10 ((rd_L3 x1 x8).length : Int)) then (if (Int.tmod x10 ((rd_L3 x1 x8).length : Int)) < ((rd_L3 x1 x8).length : Int) then (if 0 ≤ x10 then ((tacticianref01_TameAs.f k ((rd_T61 (rd_L3 x1 x8) (Int.tmod x10 ((rd_L3 x1 x8).length : Int))).f0) (wrap64 (((rd_T61 (rd_L3 x1 x8) (Int.tmod x10 ((rd_L3 x1 x8).length : Int))).f1) + (wrap64 (Int.tdiv x10 ((rd_L3 x1 x8).length : Int))))) ((rd_T61 (rd_L3 x1 x8) (Int.tmod x10 ((rd_L3 x1 x8).length : Int))).f2) ((rd_T88 x0 x10).f0) ((rd_T88 x0 x10).f1)).bind fun bt558 => (if x9.length < 4398046511104 then (tacticianref02_TameRows.l1 k x0 x1 x2 x7 x8 (x9 ++ [(⟨bt558.1, bt558.2.1, bt558.2.2⟩ : S61)]) (wrap64 (x10 + 1))) else (none))) else (none)) else (none)) else (none))) else (if 0 ≤ x10 then ((tacticianref01_TameAs.f k 0 0 (⟨#[]⟩ : ByteArray) ((rd_T88 x0 x10).f0) ((rd_T88 x0 x10).f1)).bind fun bt565 => (if x9.length < 4398046511104 then (tacticianref02_TameRows.l1 k x0 x1 x2 x7 x8 (x9 ++ [(⟨bt565.1, bt565.2.1, bt565.2.2⟩ : S61)]) (wrap64 (x10 + 1))) else (none))) else (none))) else (none)) else (none)) else (if x7.length < 5864062014805 then (tacticianref02_TameRows.l0 k x0 x1 x2 (x7 ++ [x9]) (wrap64 (x8 + 1))) else (none))
end
def tacticianref02_TameRows.f (k : Nat) (l0 : List (S88)) (l1 : List (List (S61))) (a2 : Int) : Option ((List (List (S61)))) := tacticianref02_TameRows.l0 k l0 l1 a2 ([] : List (List (S61))) 0
def tacticianref02_TameRows.T11 : Bool × List (List Nat × List Nat) := (true, [([], []), ([], []), ([0, 1], [0, 1]), ([2], [2]), ([], []), ([], []), ([], []), ([5, 6], [5, 6]), ([7], [7]), ([8], [8]), ([4, 9], [4, 9]), ([3, 10], [3, 10]), ([11], [11]), ([12, 0, 1, 2, 3, 4, 5, 6, 7, 8, 9, 10, 11, 12], [12])])
def tacticianref02_TameRows.B11 : List Nat := [0, 0, 3, 7, 0, 0, 0, 96, 224, 480, 1008, 2047, 4095, 8191]
theorem tacticianref02_TameRows.tab11 : rtab .any (opsOf Tryz.f73 11) = tacticianref02_TameRows.T11 := by kernel_rfl
theorem tacticianref02_TameRows.bits11 : waitsOk tacticianref02_TameRows.T11.2 tacticianref02_TameRows.B11 = true := by kernel_rfl
def tacticianref02_TameRows.T12 : Bool × List (List Nat × List Nat) := (true, [([], []), ([0], [0]), ([], []), ([], []), ([], []), ([3, 4], [3, 4]), ([5], [5]), ([6], [6]), ([2, 7], [2, 7]), ([1, 8], [1, 8]), ([0, 1, 2, 3, 4, 5, 6, 7, 8, 9], []), ([10, 9, 0, 1, 2, 3, 4, 5, 6, 7, 8, 9], [9, 10])])
def tacticianref02_TameRows.B12 : List Nat := [0, 1, 0, 0, 0, 24, 56, 120, 252, 511, 1023, 2047]
theorem tacticianref02_TameRows.tab12 : rtab .any (opsOf Tryz.f73 12) = tacticianref02_TameRows.T12 := by kernel_rfl
theorem tacticianref02_TameRows.bits12 : waitsOk tacticianref02_TameRows.T12.2 tacticianref02_TameRows.B12 = true := by kernel_rfl
def tacticianref02_TameRows.T13 : Bool × List (List Nat × List Nat) := (true, [([], []), ([], []), ([], []), ([], []), ([2, 3], [2, 3]), ([4], [4]), ([1, 5], [1, 5]), ([6], [6]), ([0, 7, 6], [0, 7]), ([8, 8, 0, 1, 2, 3, 4, 5, 6, 7, 8], [0, 8])])
def tacticianref02_TameRows.B13 : List Nat := [0, 0, 0, 0, 12, 28, 62, 126, 255, 511]
theorem tacticianref02_TameRows.tab13 : rtab .any (opsOf Tryz.f73 13) = tacticianref02_TameRows.T13 := by kernel_rfl
theorem tacticianref02_TameRows.bits13 : waitsOk tacticianref02_TameRows.T13.2 tacticianref02_TameRows.B13 = true := by kernel_rfl
set_option maxHeartbeats 8000000 in
set_option maxRecDepth 100000 in
theorem tacticianref02_TameRows.calls (k : Nat) (A0 : Option Addr) (c0 : Nat) (l0 : List (S88)) (A1 : Option Addr) (c1 : Nat) (l1 : List (List (S61))) (a2 : Int) (r : List (List (S61))) (w : World) (hr0 : Kd.C k88 w A0 l0.length l0) (hc0 : l0.length ≤ c0) (hr1 : Kd.C (Kd.slice 61 k61) w A1 l1.length l1) (hc1 : l1.length ≤ c1) (h : tacticianref02_TameRows.f k l0 l1 a2 = some r) :
  Calls Tryz.prog 73 #[.slice A0 l0.length c0, .slice A1 l1.length c1, .int .i64 a2] w fun e w' => ∃ v0_ : Value, e = .returned (v0_) ∧ Kd.S (Kd.slice 61 k61) 40 w' w.heap.size (fun _ => True) v0_ r ∧ Below w.heap.size w w' := by
 have hu61 := Tryz.underlying61
 have hu88 := Tryz.underlying88
 have HR0 := Aside0.mk hr0
 have HC0 := Aside0.mk hc0
 clear hr0 hc0
 have HR1 := Aside0.mk hr1
 have HC1 := Aside0.mk hc1
 clear hr1 hc1
 have HB := Aside0.mk (Below.refl w.heap.size w)
 have H : (tacticianref02_TameRows.l0 k l0 l1 a2 ([] : List (List (S61))) 0) = some r := h
 clear h
 have H' := Aside0.mk H
 clear H
 go_enter Tryz.func73, Tryz.ntmps73
 go_wp2
 go_loopg [7, 8] k (fun kq v7 v8 w' => ∃ (x7_1 : List (List (S61))) (x8_1 : Int), v8 = .int .i64 x8_1 ∧ Aside0 (tacticianref02_TameRows.l0 kq l0 l1 a2 x7_1 x8_1 = some r) ∧ Aside0 (kq ≤ k) ∧ Aside0 (Kd.S (Kd.slice 61 k61) 40 w' w.heap.size (fun _ => True) v7 x7_1) ∧ Aside0 (Below w.heap.size w w'))
 case atStart => exact ⟨(([] : List (List (S61)))), (0), (by first | rfl | (simp; done) | (simp [*]; done)), H', ⟨Nat.le_refl _⟩, ⟨by first | exact Kd.S_nil _ _ _ _ _ | exact Kd.N_nil _ _ _ _ _ | exact Kd.V_nil _ _ _ _ _ | exact Kd.Q_nil _ _ _ _ _ | exact Kd.R_nil _ _ _ _ _⟩, ⟨by repeat (first | (with_reducible first | exact HB.out | apply yA | apply yN | apply yD) | exact HB.out)⟩⟩
 case round =>
  clear H'
  try clear c1
  try clear p2
  obtain ⟨x7_1, x8_1, rfl, HA, HK1, HO_7, HB⟩ := hrel
  cases gk with
  | zero => exact absurd HA.out (by simp [tacticianref02_TameRows.l0])
  | succ k1 =>
   have H := HA.out
   clear HA
   simp only [tacticianref02_TameRows.l0] at H
   have HC4 := Aside0.mk H
   clear H
   go_upto_region 3 with (fail)
   go_cut [20] (fun v20 wc => ∃ (kq : Nat) (x20_3 : Bool), v20 = .bool x20_3 ∧ Aside0 (tacticianref02_TameRows.j1 kq l0 l1 a2 x7_1 x8_1 x20_3 = some r) ∧ Aside0 (kq ≤ k1) ∧ Aside0 (Kd.S (Kd.slice 61 k61) 40 wc w.heap.size (fun _ => True) u7 x7_1) ∧ Aside0 (Below w.heap.size w wc))
   case first =>
    have H := HC4.out
    clear HC4
    by_cases c5 : x8_1 < (l1.length : Int)
    ·rw [if_pos c5] at H
     have c5b0 : decide (x8_1 < (l1.length : Int)) = true := decide_eq_true c5
     clear c5
     (first | rw [c5b0] | (simp only [i64_w, i32_w]; rw [c5b0]) | skip)
     have H' := Aside0.mk H
     clear H
     go_wp2
     go_meet
     case rel => exact ⟨_, (decide (x8_1 < a2)), (by first | rfl | (simp; done) | (simp [*]; done)), H', ⟨by have := HK1.out; first | omega | exact Nat.le_refl _⟩, ⟨by (with_reducible repeat (first | apply Kd.S_alloc | apply Kd.S_drewN | apply Kd.S_drew)); exact HO_7.out⟩, ⟨by repeat (first | (with_reducible first | exact HB.out | apply yA | apply yN | apply yD) | exact HB.out)⟩⟩
    ·rw [if_neg c5] at H
     have c5b0 : decide (x8_1 < (l1.length : Int)) = false := decide_eq_false c5
     clear c5
     (first | rw [c5b0] | (simp only [i64_w, i32_w]; rw [c5b0]) | skip)
     have H' := Aside0.mk H
     clear H
     go_wp2
     go_meet
     case rel => exact ⟨_, (false), (by first | rfl | (simp; done) | (simp [*]; done)), H', ⟨by have := HK1.out; first | omega | exact Nat.le_refl _⟩, ⟨by (with_reducible repeat (first | apply Kd.S_alloc | apply Kd.S_drewN | apply Kd.S_drew)); exact HO_7.out⟩, ⟨by repeat (first | (with_reducible first | exact HB.out | apply yA | apply yN | apply yD) | exact HB.out)⟩⟩
   case rest =>
    clear HC4
    try clear c1
    try clear p2
    try clear c5
    try clear c5b0
    try clear p2
    obtain ⟨kq, x20_3, rfl, HA, HJ3, HO_7, HB⟩ := hcut
    cases kq with
    | zero => exact absurd HA.out (by simp [tacticianref02_TameRows.j1])
    | succ kj3 =>
     have H := HA.out
     clear HA
     simp only [tacticianref02_TameRows.j1] at H
     by_cases c6 : x20_3 = true
     ·subst c6
      have H1 : (tacticianref02_TameRows.l1 kj3 l0 l1 a2 x7_1 x8_1 ([] : List (S61)) 0) = some r := by rw [if_pos rfl] at H; exact H
      clear H
      have H := H1
      clear H1
      have H' := Aside0.mk H
      clear H
      go_wp2
      go_loopg [9, 10] kj3 (fun kq v9 v10 w' => ∃ (x9_3 : List (S61)) (x10_3 : Int), v10 = .int .i64 x10_3 ∧ Aside0 (tacticianref02_TameRows.l1 kq l0 l1 a2 x7_1 x8_1 x9_3 x10_3 = some r) ∧ Aside0 (kq ≤ kj3) ∧ Aside0 (Kd.S (Kd.slice 61 k61) 40 w' w.heap.size (fun k_ => some k_ ≠ (v9 : Value).ownBlock) u7 x7_1) ∧ Aside0 (Kd.R k61 61 w' w.heap.size (fun _ => True) v9 x9_3) ∧ Aside0 (Below w.heap.size w w'))
      case atStart => exact ⟨(([] : List (S61))), (0), (by first | rfl | (simp; done) | (simp [*]; done)), H', ⟨Nat.le_refl _⟩, ⟨by (with_reducible repeat (first | apply Kd.S_alloc | apply Kd.S_drewN | apply Kd.S_drew)); exact Kd.S_mono HO_7.out (fun _ hk => (by simp [Value.ownBlock]))⟩, ⟨by first | exact Kd.R_nil _ _ _ _ _ | exact Kd.N_nil _ _ _ _ _ | exact Kd.V_nil _ _ _ _ _ | exact Kd.Q_nil _ _ _ _ _ | exact Kd.S_nil _ _ _ _ _⟩, ⟨by repeat (first | (with_reducible first | exact HB.out | apply yA | apply yN | apply yD) | exact HB.out)⟩⟩
      case round =>
       clear H'
       try clear c1
       try clear p2
       try clear c5
       try clear c5b0
       try clear c6
       try clear p2
       obtain ⟨x9_3, x10_3, rfl, HA, HK3, HO_7, HO_9, HB⟩ := hrel
       cases gk with
       | zero => exact absurd HA.out (by simp [tacticianref02_TameRows.l1])
       | succ k3 =>
        have H := HA.out
        clear HA
        simp only [tacticianref02_TameRows.l1] at H
        by_cases c7 : x10_3 < (l0.length : Int)
        ·rw [if_pos c7] at H
         have c7b0 : decide (x10_3 < (l0.length : Int)) = true := decide_eq_true c7
         clear c7
         by_cases c8 : 0 ≤ x8_1
         ·rw [if_pos c8] at H
          have c8b0 : decide (0 ≤ x8_1) = true := decide_eq_true c8
          clear c8
          by_cases c9 : x8_1 < (l1.length : Int)
          ·rw [if_pos c9] at H
           have c9b0 : decide (x8_1 < (l1.length : Int)) = true := decide_eq_true c9
           clear c9
           by_cases c10 : ((rd_L3 l1 x8_1).length : Int) > 0
           ·rw [if_pos c10] at H
            have c10b0 : decide (0 < ((rd_L3 l1 x8_1).length : Int)) = true := decide_eq_true c10
            have c10b1 : decide (0 < (rd_L3 l1 x8_1).length) = true := decide_eq_true (by omega)
            clear c10
            by_cases c11 : ((rd_L3 l1 x8_1).length : Int) = 0
            ·rw [if_pos c11] at H
             exact absurd H (by simp)
            ·rw [if_neg c11] at H
             have c11b0 : (((rd_L3 l1 x8_1).length : Int) == 0) = false := beq_eq_false_iff_ne.mpr c11
             have c11b1 : (((rd_L3 l1 x8_1).length : Int) != 0) = true := bne_iff_ne.mpr c11
             have c11b2 : ¬ ((rd_L3 l1 x8_1) = []) := fun h_ => c11 (by rw [h_]; rfl)
             obtain ⟨ji12, hji12⟩ : ∃ j_ : Int, (Int.tmod x10_3 ((rd_L3 l1 x8_1).length : Int)) = j_ := ⟨_, rfl⟩
             replace H : (if 0 ≤ (ji12) then (if (ji12) < ((rd_L3 l1 x8_1).length : Int) then (if 0 ≤ x10_3 then ((tacticianref01_TameAs.f k3 ((rd_T61 (rd_L3 l1 x8_1) (ji12)).f0) (wrap64 (((rd_T61 (rd_L3 l1 x8_1) (ji12)).f1) + (wrap64 (Int.tdiv x10_3 ((rd_L3 l1 x8_1).length : Int))))) ((rd_T61 (rd_L3 l1 x8_1) (ji12)).f2) ((rd_T88 l0 x10_3).f0) ((rd_T88 l0 x10_3).f1)).bind fun bt558 => (if x9_3.length < 4398046511104 then (tacticianref02_TameRows.l1 k3 l0 l1 a2 x7_1 x8_1 (x9_3 ++ [(⟨bt558.1, bt558.2.1, bt558.2.2⟩ : S61)]) (wrap64 (x10_3 + 1))) else (none))) else (none)) else (none)) else (none)) = some r := by first | (rw [hji12] at H; exact H) | (simp only [hji12] at H ⊢; exact H)
             by_cases c13 : 0 ≤ (ji12)
             ·rw [if_pos c13] at H
              have c13b0 : decide (0 ≤ (ji12)) = true := decide_eq_true c13
              clear c13
              by_cases c14 : (ji12) < ((rd_L3 l1 x8_1).length : Int)
              ·rw [if_pos c14] at H
               have c14b0 : decide ((ji12) < ((rd_L3 l1 x8_1).length : Int)) = true := decide_eq_true c14
               clear c14
               by_cases c15 : 0 ≤ x10_3
               ·rw [if_pos c15] at H
                have c15b0 : decide (0 ≤ x10_3) = true := decide_eq_true c15
                clear c15
                replace H := Option.bind_eq_some_iff.mp H
                obtain ⟨⟨t558, t559, t560⟩, A160, H⟩ := H
                replace H : (if x9_3.length < 4398046511104 then (tacticianref02_TameRows.l1 k3 l0 l1 a2 x7_1 x8_1 (x9_3 ++ [(⟨t558, t559, t560⟩ : S61)]) (wrap64 (x10_3 + 1))) else (none)) = some r := H
                have A16 := Aside0.mk A160
                clear A160
                by_cases c17 : x9_3.length < 4398046511104
                ·rw [if_pos c17] at H
                 have LMc17 := Aside0.mk c17
                 clear c17
                 obtain ⟨y561, hy561⟩ : ∃ y_ : List (S61), y_ = (x9_3 ++ [(⟨t558, t559, t560⟩ : S61)]) := ⟨_, rfl⟩
                 replace H : (tacticianref02_TameRows.l1 k3 l0 l1 a2 x7_1 x8_1 y561 (wrap64 (x10_3 + 1))) = some r := by first | (rw [hy561]; with_reducible exact H) | (have H2_ := (Option.bind_some _ _).symm.trans H; rw [hy561]; with_reducible exact H2_) | (have H2_ := (Option.bind_some _ _).symm.trans H; with_reducible exact H2_) | with_reducible exact H | (rw [hy561]; exact H) | exact H
                 have Ny561 := Aside0.mk hy561
                 clear hy561
                 have H' := Aside0.mk H
                 clear H
                 try go_wp2_with (first | ((with_reducible refine gate_dst (N := 11) rfl ?_); refine box_event ?hg (N := 11) ?hd (cs := #[.int .i64 0, .int .i64 0, .string (⟨#[]⟩ : ByteArray)]) (t := 61) ?hr ?_; (case hd => rfl); (case hg => rfl); (case hr => first | (go_simp; done) | (go_simp; rfl)); intro gb551 hg w18 hbox hb; have n0_ := Aside0.mk (Kd.S_below (Kd.S_elderB (by (with_reducible repeat (first | apply Kd.S_alloc | apply Kd.S_drewN | apply Kd.S_drew)); exact HO_7.out) gb551 (Nat.le_of_eq hg.symm)) hb); have n1_ := Aside0.mk (Kd.R_below (Kd.R_elderB (by (with_reducible repeat (first | apply Kd.R_alloc | apply Kd.R_drewN | apply Kd.R_drew)); exact HO_9.out) gb551 (Nat.le_of_eq hg.symm)) hb); have n2_ := Aside0.mk (below_step (by repeat (first | (with_reducible first | exact HB.out | apply yA | apply yN | apply yD) | exact HB.out)) hb); have n3_ := Aside0.mk (hbox); have n4_ := Aside0.mk ((by rw [hg]; exact (below_size (by repeat (first | (with_reducible first | exact HB.out | apply yA | apply yN | apply yD) | exact HB.out))) : w.heap.size ≤ gb551)); have n5_ := Aside0.mk ((by rw [hg]; exact (below_size (by repeat (first | (with_reducible first | exact HB.out | apply yA | apply yN | apply yD) | exact HB.out))) : w.heap.size ≤ gb551)); clear HO_7; clear HO_9; clear HB; have HO_7 := n0_; have HO_9 := n1_; have HB := n2_; have BK551 := n3_; have GW551 := n4_; have GE551 := n5_; clear n0_ n1_ n2_ n3_ n4_ n5_; clear hb hbox hg; have hcz19_0 : w18.cell? ⟨gb551, 0, none⟩ = some (.int .i64 0) := (blk_cell BK551.out 0).trans rfl; have hcz19_1 : w18.cell? ⟨gb551, 1, none⟩ = some (.int .i64 0) := (blk_cell BK551.out 1).trans rfl; have hcz19_2 : w18.cell? ⟨gb551, 2, none⟩ = some (.string (⟨#[]⟩ : ByteArray)) := (blk_cell BK551.out 2).trans rfl; have hfz19_0 := blk_frozen BK551.out 0; have hfz19_1 := blk_frozen BK551.out 1; have hfz19_2 := blk_frozen BK551.out 2; have p552 : 0 ≤ (x8_1 : Int) := of_decide_eq_true (by first | (with_reducible assumption) | assumption); have q552 : x8_1 < (l1.length : Int) := of_decide_eq_true (by first | (with_reducible assumption) | assumption); obtain ⟨ad552, A552_0, c552_0, e552, hx552_0, hl552_0, hi552_0⟩ := at_L3 HR1.out x8_1 p552 q552; cases e552; have hn552_0 : ad552.block ≠ gb551 := Nat.ne_of_lt (Nat.lt_of_lt_of_le (by have := World.block_lt_of_cell? _ _ hx552_0; first | rwa [add_block] at this | exact this) GW551.out); have hn552_1 : ad552.block ≠ gb551 := Nat.ne_of_lt (Nat.lt_of_lt_of_le (by have := World.block_lt_of_cell? _ _ hx552_0; first | rwa [add_block] at this | exact this) GW551.out); have hn552_2 : ad552.block ≠ gb551 := Nat.ne_of_lt (Nat.lt_of_lt_of_le (by have := World.block_lt_of_cell? _ _ hx552_0; first | rwa [add_block] at this | exact this) GW551.out); replace hx552_0 := (HB.out.cell (World.block_lt_of_cell? w _ hx552_0)).trans hx552_0; have HR552_0 := Aside0.mk hi552_0; have HC552_0 := Aside0.mk hl552_0; clear hi552_0 hl552_0; replace hx552_0 := (cell_far (p := ⟨gb551, 0, none⟩) (by first | (rw [add_block]; exact hn552_0) | (show (Addr.add _ _).block ≠ _; rw [add_block]; exact hn552_0) | exact hn552_0) (.int .i64 0)).trans hx552_0; replace hx552_0 := (cell_far (p := ⟨gb551, 1, none⟩) (by first | (rw [add_block]; exact hn552_1) | (show (Addr.add _ _).block ≠ _; rw [add_block]; exact hn552_1) | exact hn552_1) (.int .i64 0)).trans hx552_0; replace hx552_0 := (cell_far (p := ⟨gb551, 2, none⟩) (by first | (rw [add_block]; exact hn552_2) | (show (Addr.add _ _).block ≠ _; rw [add_block]; exact hn552_2) | exact hn552_2) (.string (⟨#[]⟩ : ByteArray))).trans hx552_0; clear hn552_0; clear hn552_1; clear hn552_2; replace p552 := eq_true p552; replace q552 := eq_true q552))
                 have n0_ : Aside0 (Kd.S (Kd.slice 61 k61) 40 (((w18.setCell ⟨gb551, 0, none⟩ (.int .i64 0)).setCell ⟨gb551, 1, none⟩ (.int .i64 0)).setCell ⟨gb551, 2, none⟩ (.string (⟨#[]⟩ : ByteArray))) w.heap.size (fun k_ => some k_ ≠ (u9 : Value).ownBlock ∧ k_ ≠ gb551) u7 x7_1) := ⟨by (with_reducible repeat (first | apply Kd.S_alloc | apply Kd.S_drewN | apply Kd.S_drew)); exact Kd.S_mono (Kd.S_far (p := ⟨gb551, 2, none⟩) (Kd.S_far (p := ⟨gb551, 1, none⟩) (Kd.S_far (p := ⟨gb551, 0, none⟩) (Kd.S_mono HO_7.out (fun k_ hk => (⟨hk, hk.2⟩ : _ ∧ k_ ≠ gb551))) (fun _ hk => hk.2) (.int .i64 0)) (fun _ hk => hk.2) (.int .i64 0)) (fun _ hk => hk.2) (.string (⟨#[]⟩ : ByteArray))) (fun _ hk => ⟨hk.1.1, hk.1.2⟩)⟩
                 have n1_ : Aside0 (Kd.R k61 61 (((w18.setCell ⟨gb551, 0, none⟩ (.int .i64 0)).setCell ⟨gb551, 1, none⟩ (.int .i64 0)).setCell ⟨gb551, 2, none⟩ (.string (⟨#[]⟩ : ByteArray))) w.heap.size (fun k_ => k_ ≠ gb551) u9 x9_3) := ⟨by (with_reducible repeat (first | apply Kd.R_alloc | apply Kd.R_drewN | apply Kd.R_drew)); exact Kd.R_mono (Kd.R_far (p := ⟨gb551, 2, none⟩) (Kd.R_far (p := ⟨gb551, 1, none⟩) (Kd.R_far (p := ⟨gb551, 0, none⟩) (Kd.R_mono HO_9.out (fun k_ hk => (⟨hk, hk.2⟩ : _ ∧ k_ ≠ gb551))) (fun _ hk => hk.2) (.int .i64 0)) (fun _ hk => hk.2) (.int .i64 0)) (fun _ hk => hk.2) (.string (⟨#[]⟩ : ByteArray))) (fun _ hk => hk.1.2)⟩
                 have n2_ : Aside0 ((((w18.setCell ⟨gb551, 0, none⟩ (.int .i64 0)).setCell ⟨gb551, 1, none⟩ (.int .i64 0)).setCell ⟨gb551, 2, none⟩ (.string (⟨#[]⟩ : ByteArray))).heap[gb551]? = some (.cells #[.int .i64 0, .int .i64 0, .string (⟨#[]⟩ : ByteArray)] 61 (0, 0))) := ⟨by (with_reducible repeat (first | refine zN ?_ _ | refine zD ?_ | refine zA ?_ _)); refine blk_put (cs := #[.int .i64 0, .int .i64 0, .string (⟨#[]⟩ : ByteArray)]) ?_ 2 _ rfl; (with_reducible repeat (first | refine zN ?_ _ | refine zD ?_ | refine zA ?_ _)); refine blk_put (cs := #[.int .i64 0, .int .i64 0, .string (⟨#[]⟩ : ByteArray)]) ?_ 1 _ rfl; (with_reducible repeat (first | refine zN ?_ _ | refine zD ?_ | refine zA ?_ _)); refine blk_put (cs := #[.int .i64 0, .int .i64 0, .string (⟨#[]⟩ : ByteArray)]) ?_ 0 _ rfl; (with_reducible repeat (first | refine zN ?_ _ | refine zD ?_ | refine zA ?_ _)); exact BK551.out⟩
                 have n3_ : Aside0 (Below w.heap.size w (((w18.setCell ⟨gb551, 0, none⟩ (.int .i64 0)).setCell ⟨gb551, 1, none⟩ (.int .i64 0)).setCell ⟨gb551, 2, none⟩ (.string (⟨#[]⟩ : ByteArray)))) := ⟨by repeat (first | (with_reducible first | exact HB.out | apply yA | apply yN | apply yD | refine below_set ?_ GE551.out) | exact HB.out)⟩
                 (try clear HO_7)
                 (try clear HO_9)
                 (try clear BK551)
                 (try clear HB)
                 generalize (((w18.setCell ⟨gb551, 0, none⟩ (.int .i64 0)).setCell ⟨gb551, 1, none⟩ (.int .i64 0)).setCell ⟨gb551, 2, none⟩ (.string (⟨#[]⟩ : ByteArray))) = w20 at n0_ n1_ n2_ n3_ ⊢
                 have HO_7 := n0_
                 have HO_9 := n1_
                 have BK551 := n2_
                 have HB := n3_
                 clear n0_ n1_ n2_ n3_
                 have n0_ := Aside0.mk (Kd.S_drew HO_7.out)
                 have n1_ := Aside0.mk (Kd.R_drew HO_9.out)
                 have n2_ := Aside0.mk (blk_drew BK551.out)
                 have n3_ := Aside0.mk (below_drew1 HB.out)
                 clear HO_7
                 clear HO_9
                 clear BK551
                 clear HB
                 have HO_7 := n0_
                 have HO_9 := n1_
                 have BK551 := n2_
                 have HB := n3_
                 clear n0_ n1_ n2_ n3_
                 have p553 : 0 ≤ (x8_1 : Int) := of_decide_eq_true (by first | (with_reducible assumption) | assumption)
                 have q553 : x8_1 < (l1.length : Int) := of_decide_eq_true (by first | (with_reducible assumption) | assumption)
                 obtain ⟨ad553, A553_0, c553_0, e553, hx553_0, hl553_0, hi553_0⟩ := at_L3 HR1.out x8_1 p553 q553
                 have hw553_0 := hx553_0
                 obtain rfl : ad552 = ad553 := (by injection e553)
                 replace hx553_0 := (HB.out.cell (World.block_lt_of_cell? w _ hx553_0)).trans hx553_0
                 have HR553_0 := Aside0.mk hi553_0
                 have HC553_0 := Aside0.mk hl553_0
                 clear hi553_0 hl553_0
                 replace p553 := eq_true p553
                 replace q553 := eq_true q553
                 have p554 : 0 ≤ (x8_1 : Int) := of_decide_eq_true (by first | (with_reducible assumption) | assumption)
                 have q554 : x8_1 < (l1.length : Int) := of_decide_eq_true (by first | (with_reducible assumption) | assumption)
                 obtain ⟨ad554, A554_0, c554_0, e554, hx554_0, hl554_0, hi554_0⟩ := at_L3 HR1.out x8_1 p554 q554
                 have hw554_0 := hx554_0
                 obtain rfl : ad552 = ad554 := (by injection e554)
                 replace hx554_0 := (HB.out.cell (World.block_lt_of_cell? w _ hx554_0)).trans hx554_0
                 have HR554_0 := Aside0.mk hi554_0
                 have HC554_0 := Aside0.mk hl554_0
                 clear hi554_0 hl554_0
                 replace p554 := eq_true p554
                 replace q554 := eq_true q554
                 have ea_ := Option.some.inj (hx553_0.symm.trans hx554_0)
                 injection ea_ with ea_ en_ ec_
                 subst ea_
                 subst ec_
                 clear en_
                 have p555 : 0 ≤ ((ji12) : Int) := of_decide_eq_true (by first | (with_reducible assumption) | assumption)
                 have q555 : (ji12) < ((rd_L3 l1 x8_1).length : Int) := of_decide_eq_true (by first | (with_reducible assumption) | assumption)
                 obtain ⟨ad555, e555, hx555_0, hx555_1, hx555_2⟩ := at_T61 HR553_0.out (ji12) p555 q555
                 have hw555_2 := hx555_2
                 have hw555_1 := hx555_1
                 have hw555_0 := hx555_0
                 cases e555
                 replace hx555_0 := (HB.out.cell (World.block_lt_of_cell? w _ hx555_0)).trans hx555_0
                 replace hx555_1 := (HB.out.cell (World.block_lt_of_cell? w _ hx555_1)).trans hx555_1
                 replace hx555_2 := (HB.out.cell (World.block_lt_of_cell? w _ hx555_2)).trans hx555_2
                 replace p555 := eq_true p555
                 replace q555 := eq_true q555
                 refine start_ (n := 14) (S := fun w' => w'.cell? (ad552.add (x8_1).toNat) = some (.slice (some ad555) (rd_L3 l1 x8_1).length c553_0) ∧ w'.cell? (ad552.add (x8_1).toNat) = some (.slice (some ad555) (rd_L3 l1 x8_1).length c553_0) ∧ w'.cell? (ad555.add (((ji12)).toNat * 3)) = some (.int .i64 ((rd_T61 (rd_L3 l1 x8_1) (ji12)).f0)) ∧ w'.cell? ⟨(ad555.add (((ji12)).toNat * 3)).block, (ad555.add (((ji12)).toNat * 3)).off + 1, none⟩ = some (.int .i64 ((rd_T61 (rd_L3 l1 x8_1) (ji12)).f1)) ∧ w'.cell? ⟨(ad555.add (((ji12)).toNat * 3)).block, (ad555.add (((ji12)).toNat * 3)).off + 2, none⟩ = some (.string ((rd_T61 (rd_L3 l1 x8_1) (ji12)).f2))) (ds := []) #[false, false, false, false, false, false, false, false, false, false, false, false, false, false] (by kernel_rfl) rfl rfl ⟨((HB.out.cell (World.block_lt_of_cell? w _ hw553_0)).trans hw553_0), ((HB.out.cell (World.block_lt_of_cell? w _ hw554_0)).trans hw554_0), ((HB.out.cell (World.block_lt_of_cell? w _ hw555_0)).trans hw555_0), ((HB.out.cell (World.block_lt_of_cell? w _ hw555_1)).trans hw555_1), ((HB.out.cell (World.block_lt_of_cell? w _ hw555_2)).trans hw555_2)⟩ (fun hHeld => ?_); refine with_tabW tacticianref02_TameRows.tab11 tacticianref02_TameRows.bits11 (fun HT_ HW_ => ?_)
                 generalize w20.drew = w21 at HO_7 HO_9 BK551 HB HR553_0 HR554_0 hx553_0 hx554_0 hx555_0 hx555_1 hx555_2 hHeld ⊢
                 refine pure_ (i := 0) (N := some 36) (v := ?_) (a' := ?_) #[true, false, false, false, false, false, false, false, false, false, false, false, false, false] rfl rfl (any_of HT_.out (by kernel_rfl)) (fun _ _ _ h => h) (Or.inl ⟨by rfl, ?_⟩) ?_ ?_
                 rotate_left
                 ·intro w'
                  go_simp
                  with_reducible rfl
                 rotate_left
                 ·simp only [Act.put, List.setIfInBounds_toArray, List.set_cons_zero, List.set_cons_succ, i64_w, i32_w]
                  rfl
                 refine pure_ (i := 1) (N := some 37) (v := ?_) (a' := ?_) #[true, true, false, false, false, false, false, false, false, false, false, false, false, false] rfl rfl (any_of HT_.out (by kernel_rfl)) (fun _ _ _ h => h) (Or.inl ⟨by rfl, ?_⟩) ?_ ?_
                 rotate_left
                 ·intro w'
                  go_simp
                  with_reducible rfl
                 rotate_left
                 ·simp only [Act.put, List.setIfInBounds_toArray, List.set_cons_zero, List.set_cons_succ, i64_w, i32_w]
                  rfl
                 refine pure_ (i := 2) (N := some 38) (v := ?_) (a' := ?_) #[true, true, true, false, false, false, false, false, false, false, false, false, false, false] rfl rfl (any_of HT_.out (by kernel_rfl)) (fun _ _ _ h => h) (Or.inl ⟨by rfl, ?_⟩) ?_ ?_
                 rotate_left
                 ·intro w'
                  go_simp
                  with_reducible rfl
                 rotate_left
                 ·simp only [Act.put, List.setIfInBounds_toArray, List.set_cons_zero, List.set_cons_succ, i64_w, i32_w]
                  rfl
                 refine pure_ (i := 4) (N := some 40) (v := ?_) (a' := ?_) #[true, true, true, false, true, false, false, false, false, false, false, false, false, false] rfl rfl (any_of HT_.out (by kernel_rfl)) (fun _ _ _ h => h) (Or.inl ⟨by rfl, ?_⟩) ?_ ?_
                 rotate_left
                 ·intro w'
                  go_simp
                  with_reducible rfl
                 rotate_left
                 ·simp only [Act.put, List.setIfInBounds_toArray, List.set_cons_zero, List.set_cons_succ, i64_w, i32_w]
                  rfl
                 refine pure_ (i := 5) (N := some 41) (v := ?_) (a' := ?_) #[true, true, true, false, true, true, false, false, false, false, false, false, false, false] rfl rfl (any_of HT_.out (by kernel_rfl)) (fun _ _ _ h => h) (Or.inl ⟨by rfl, ?_⟩) ?_ ?_
                 rotate_left
                 ·intro w'
                  go_simp
                  with_reducible rfl
                 rotate_left
                 ·simp only [Act.put, List.setIfInBounds_toArray, List.set_cons_zero, List.set_cons_succ, i64_w, i32_w]
                  rfl
                 refine pure_ (i := 6) (N := some 42) (v := ?_) (a' := ?_) #[true, true, true, false, true, true, true, false, false, false, false, false, false, false] rfl rfl (any_of HT_.out (by kernel_rfl)) (fun _ _ _ h => h) (Or.inl ⟨by rfl, ?_⟩) ?_ ?_
                 rotate_left
                 ·intro w'
                  go_simp
                  with_reducible rfl
                 rotate_left
                 ·simp only [Act.put, List.setIfInBounds_toArray, List.set_cons_zero, List.set_cons_succ, i64_w, i32_w]
                  rfl
                 refine pure_ (i := 7) (N := some 43) (v := ?_) (a' := ?_) #[true, true, true, false, true, true, true, true, false, false, false, false, false, false] rfl rfl (any_of HT_.out (by kernel_rfl)) (fun _ _ _ h => h) (Or.inl ⟨by rfl, ?_⟩) ?_ ?_
                 rotate_left
                 ·intro w'
                  go_simp
                  with_reducible rfl
                 rotate_left
                 ·simp only [Act.put, List.setIfInBounds_toArray, List.set_cons_zero, List.set_cons_succ, i64_w, i32_w]
                  rfl
                 refine take_ (i := 3) (N := some 39) (v := ?_) (a' := ?_) #[true, true, true, true, true, true, true, true, false, false, false, false, false, false] rfl rfl (take_ofW HT_.out HW_.out (by kernel_rfl)) (fun _ _ _ h => h) (Or.inl ⟨by rfl, ?_⟩) hHeld ?_ ?_
                 rotate_left
                 ·rintro w' ⟨s0, s1, s2, s3, s4⟩
                  go_simp
                  with_reducible rfl
                 rotate_left
                 ·simp only [Act.put, List.setIfInBounds_toArray, List.set_cons_zero, List.set_cons_succ, i64_w, i32_w]
                  rfl
                 refine take_ (i := 8) (N := some 44) (v := ?_) (a' := ?_) #[true, true, true, true, true, true, true, true, true, false, false, false, false, false] rfl rfl (take_ofW HT_.out HW_.out (by kernel_rfl)) (fun _ _ _ h => h) (Or.inl ⟨by rfl, ?_⟩) hHeld ?_ ?_
                 rotate_left
                 ·rintro w' ⟨s0, s1, s2, s3, s4⟩
                  go_simp
                  with_reducible rfl
                 rotate_left
                 ·simp only [Act.put, List.setIfInBounds_toArray, List.set_cons_zero, List.set_cons_succ, i64_w, i32_w]
                  rfl
                 refine pure_ (i := 9) (N := some 45) (v := ?_) (a' := ?_) #[true, true, true, true, true, true, true, true, true, true, false, false, false, false] rfl rfl (any_of HT_.out (by kernel_rfl)) (fun _ _ _ h => h) (Or.inl ⟨by rfl, ?_⟩) ?_ ?_
                 rotate_left
                 ·intro w'
                  go_simp
                  with_reducible rfl
                 rotate_left
                 ·simp only [Act.put, List.setIfInBounds_toArray, List.set_cons_zero, List.set_cons_succ, i64_w, i32_w]
                  rfl
                 refine pure_ (i := 10) (N := some 46) (v := ?_) (a' := ?_) #[true, true, true, true, true, true, true, true, true, true, true, false, false, false] rfl rfl (any_of HT_.out (by kernel_rfl)) (fun _ _ _ h => h) (Or.inl ⟨by rfl, ?_⟩) ?_ ?_
                 rotate_left
                 ·intro w'
                  go_simp
                  with_reducible rfl
                 rotate_left
                 ·simp only [Act.put, List.setIfInBounds_toArray, List.set_cons_zero, List.set_cons_succ, i64_w, i32_w]
                  rfl
                 refine pure_ (i := 11) (N := some 47) (v := ?_) (a' := ?_) #[true, true, true, true, true, true, true, true, true, true, true, true, false, false] rfl rfl (any_of HT_.out (by kernel_rfl)) (fun _ _ _ h => h) (Or.inl ⟨by rfl, ?_⟩) ?_ ?_
                 rotate_left
                 ·intro w'
                  go_simp
                  with_reducible rfl
                 rotate_left
                 ·simp only [Act.put, List.setIfInBounds_toArray, List.set_cons_zero, List.set_cons_succ, i64_w, i32_w]
                  rfl
                 refine take_ (i := 12) (N := some 48) (v := ?_) (a' := ?_) #[true, true, true, true, true, true, true, true, true, true, true, true, true, false] rfl rfl (take_ofW HT_.out HW_.out (by kernel_rfl)) (fun _ _ _ h => h) (Or.inl ⟨by rfl, ?_⟩) hHeld ?_ ?_
                 rotate_left
                 ·rintro w' ⟨s0, s1, s2, s3, s4⟩
                  go_simp
                  with_reducible rfl
                 rotate_left
                 ·simp only [Act.put, List.setIfInBounds_toArray, List.set_cons_zero, List.set_cons_succ, i64_w, i32_w]
                  rfl
                 refine one_ (i := 13) (N := none) #[true, true, true, true, true, true, true, true, true, true, true, true, true, true] rfl rfl (one_of HT_.out (by kernel_rfl)) (by decide) (fun K hK => ?_)
                 have hs22 : w21.cell? ⟨gb551, 0, none⟩ = some (.int .i64 0) := (blk_cell BK551.out 0).trans rfl
                 have hfs22 := blk_frozen BK551.out 0
                 have hs23 : w21.cell? ⟨gb551, 1, none⟩ = some (.int .i64 0) := (blk_cell BK551.out 1).trans rfl
                 have hfs23 := blk_frozen BK551.out 1
                 have hs24 : w21.cell? ⟨gb551, 2, none⟩ = some (.string (⟨#[]⟩ : ByteArray)) := (blk_cell BK551.out 2).trans rfl
                 have hfs24 := blk_frozen BK551.out 2
                 refine skip_ (w1 := ?_) (by rfl) rfl ?_ ?_
                 rotate_left
                 ·go_simp
                  rfl
                 refine hK.out _ _ ⟨((cell_far (p := ⟨gb551, _, none⟩) (by first | exact Nat.ne_of_lt (Nat.lt_of_lt_of_le (by have := World.block_lt_of_cell? _ _ hw553_0; first | rwa [add_block] at this | exact this) GW551.out) | (rw [add_block]; exact Nat.ne_of_lt (Nat.lt_of_lt_of_le (by have := World.block_lt_of_cell? _ _ hw553_0; first | rwa [add_block] at this | exact this) GW551.out)) | (show (Addr.add _ _).block ≠ _; rw [add_block]; exact Nat.ne_of_lt (Nat.lt_of_lt_of_le (by have := World.block_lt_of_cell? _ _ hw553_0; first | rwa [add_block] at this | exact this) GW551.out)) | (dsimp only; exact Nat.ne_of_lt (Nat.lt_of_lt_of_le (by have := World.block_lt_of_cell? _ _ hw553_0; first | rwa [add_block] at this | exact this) GW551.out))) _).trans (((cell_far (p := ⟨gb551, _, none⟩) (by first | exact Nat.ne_of_lt (Nat.lt_of_lt_of_le (by have := World.block_lt_of_cell? _ _ hw553_0; first | rwa [add_block] at this | exact this) GW551.out) | (rw [add_block]; exact Nat.ne_of_lt (Nat.lt_of_lt_of_le (by have := World.block_lt_of_cell? _ _ hw553_0; first | rwa [add_block] at this | exact this) GW551.out)) | (show (Addr.add _ _).block ≠ _; rw [add_block]; exact Nat.ne_of_lt (Nat.lt_of_lt_of_le (by have := World.block_lt_of_cell? _ _ hw553_0; first | rwa [add_block] at this | exact this) GW551.out)) | (dsimp only; exact Nat.ne_of_lt (Nat.lt_of_lt_of_le (by have := World.block_lt_of_cell? _ _ hw553_0; first | rwa [add_block] at this | exact this) GW551.out))) _).trans (((cell_far (p := ⟨gb551, _, none⟩) (by first | exact Nat.ne_of_lt (Nat.lt_of_lt_of_le (by have := World.block_lt_of_cell? _ _ hw553_0; first | rwa [add_block] at this | exact this) GW551.out) | (rw [add_block]; exact Nat.ne_of_lt (Nat.lt_of_lt_of_le (by have := World.block_lt_of_cell? _ _ hw553_0; first | rwa [add_block] at this | exact this) GW551.out)) | (show (Addr.add _ _).block ≠ _; rw [add_block]; exact Nat.ne_of_lt (Nat.lt_of_lt_of_le (by have := World.block_lt_of_cell? _ _ hw553_0; first | rwa [add_block] at this | exact this) GW551.out)) | (dsimp only; exact Nat.ne_of_lt (Nat.lt_of_lt_of_le (by have := World.block_lt_of_cell? _ _ hw553_0; first | rwa [add_block] at this | exact this) GW551.out))) _).trans (hHeld.1)))))), ((cell_far (p := ⟨gb551, _, none⟩) (by first | exact Nat.ne_of_lt (Nat.lt_of_lt_of_le (by have := World.block_lt_of_cell? _ _ hw554_0; first | rwa [add_block] at this | exact this) GW551.out) | (rw [add_block]; exact Nat.ne_of_lt (Nat.lt_of_lt_of_le (by have := World.block_lt_of_cell? _ _ hw554_0; first | rwa [add_block] at this | exact this) GW551.out)) | (show (Addr.add _ _).block ≠ _; rw [add_block]; exact Nat.ne_of_lt (Nat.lt_of_lt_of_le (by have := World.block_lt_of_cell? _ _ hw554_0; first | rwa [add_block] at this | exact this) GW551.out)) | (dsimp only; exact Nat.ne_of_lt (Nat.lt_of_lt_of_le (by have := World.block_lt_of_cell? _ _ hw554_0; first | rwa [add_block] at this | exact this) GW551.out))) _).trans (((cell_far (p := ⟨gb551, _, none⟩) (by first | exact Nat.ne_of_lt (Nat.lt_of_lt_of_le (by have := World.block_lt_of_cell? _ _ hw554_0; first | rwa [add_block] at this | exact this) GW551.out) | (rw [add_block]; exact Nat.ne_of_lt (Nat.lt_of_lt_of_le (by have := World.block_lt_of_cell? _ _ hw554_0; first | rwa [add_block] at this | exact this) GW551.out)) | (show (Addr.add _ _).block ≠ _; rw [add_block]; exact Nat.ne_of_lt (Nat.lt_of_lt_of_le (by have := World.block_lt_of_cell? _ _ hw554_0; first | rwa [add_block] at this | exact this) GW551.out)) | (dsimp only; exact Nat.ne_of_lt (Nat.lt_of_lt_of_le (by have := World.block_lt_of_cell? _ _ hw554_0; first | rwa [add_block] at this | exact this) GW551.out))) _).trans (((cell_far (p := ⟨gb551, _, none⟩) (by first | exact Nat.ne_of_lt (Nat.lt_of_lt_of_le (by have := World.block_lt_of_cell? _ _ hw554_0; first | rwa [add_block] at this | exact this) GW551.out) | (rw [add_block]; exact Nat.ne_of_lt (Nat.lt_of_lt_of_le (by have := World.block_lt_of_cell? _ _ hw554_0; first | rwa [add_block] at this | exact this) GW551.out)) | (show (Addr.add _ _).block ≠ _; rw [add_block]; exact Nat.ne_of_lt (Nat.lt_of_lt_of_le (by have := World.block_lt_of_cell? _ _ hw554_0; first | rwa [add_block] at this | exact this) GW551.out)) | (dsimp only; exact Nat.ne_of_lt (Nat.lt_of_lt_of_le (by have := World.block_lt_of_cell? _ _ hw554_0; first | rwa [add_block] at this | exact this) GW551.out))) _).trans (hHeld.2.1)))))), ((cell_far (p := ⟨gb551, _, none⟩) (by first | exact Nat.ne_of_lt (Nat.lt_of_lt_of_le (by have := World.block_lt_of_cell? _ _ hw555_0; first | rwa [add_block] at this | exact this) GW551.out) | (rw [add_block]; exact Nat.ne_of_lt (Nat.lt_of_lt_of_le (by have := World.block_lt_of_cell? _ _ hw555_0; first | rwa [add_block] at this | exact this) GW551.out)) | (show (Addr.add _ _).block ≠ _; rw [add_block]; exact Nat.ne_of_lt (Nat.lt_of_lt_of_le (by have := World.block_lt_of_cell? _ _ hw555_0; first | rwa [add_block] at this | exact this) GW551.out)) | (dsimp only; exact Nat.ne_of_lt (Nat.lt_of_lt_of_le (by have := World.block_lt_of_cell? _ _ hw555_0; first | rwa [add_block] at this | exact this) GW551.out))) _).trans (((cell_far (p := ⟨gb551, _, none⟩) (by first | exact Nat.ne_of_lt (Nat.lt_of_lt_of_le (by have := World.block_lt_of_cell? _ _ hw555_0; first | rwa [add_block] at this | exact this) GW551.out) | (rw [add_block]; exact Nat.ne_of_lt (Nat.lt_of_lt_of_le (by have := World.block_lt_of_cell? _ _ hw555_0; first | rwa [add_block] at this | exact this) GW551.out)) | (show (Addr.add _ _).block ≠ _; rw [add_block]; exact Nat.ne_of_lt (Nat.lt_of_lt_of_le (by have := World.block_lt_of_cell? _ _ hw555_0; first | rwa [add_block] at this | exact this) GW551.out)) | (dsimp only; exact Nat.ne_of_lt (Nat.lt_of_lt_of_le (by have := World.block_lt_of_cell? _ _ hw555_0; first | rwa [add_block] at this | exact this) GW551.out))) _).trans (((cell_far (p := ⟨gb551, _, none⟩) (by first | exact Nat.ne_of_lt (Nat.lt_of_lt_of_le (by have := World.block_lt_of_cell? _ _ hw555_0; first | rwa [add_block] at this | exact this) GW551.out) | (rw [add_block]; exact Nat.ne_of_lt (Nat.lt_of_lt_of_le (by have := World.block_lt_of_cell? _ _ hw555_0; first | rwa [add_block] at this | exact this) GW551.out)) | (show (Addr.add _ _).block ≠ _; rw [add_block]; exact Nat.ne_of_lt (Nat.lt_of_lt_of_le (by have := World.block_lt_of_cell? _ _ hw555_0; first | rwa [add_block] at this | exact this) GW551.out)) | (dsimp only; exact Nat.ne_of_lt (Nat.lt_of_lt_of_le (by have := World.block_lt_of_cell? _ _ hw555_0; first | rwa [add_block] at this | exact this) GW551.out))) _).trans (hHeld.2.2.1)))))), ((cell_far (p := ⟨gb551, _, none⟩) (by first | exact Nat.ne_of_lt (Nat.lt_of_lt_of_le (by have := World.block_lt_of_cell? _ _ hw555_1; first | rwa [add_block] at this | exact this) GW551.out) | (rw [add_block]; exact Nat.ne_of_lt (Nat.lt_of_lt_of_le (by have := World.block_lt_of_cell? _ _ hw555_1; first | rwa [add_block] at this | exact this) GW551.out)) | (show (Addr.add _ _).block ≠ _; rw [add_block]; exact Nat.ne_of_lt (Nat.lt_of_lt_of_le (by have := World.block_lt_of_cell? _ _ hw555_1; first | rwa [add_block] at this | exact this) GW551.out)) | (dsimp only; exact Nat.ne_of_lt (Nat.lt_of_lt_of_le (by have := World.block_lt_of_cell? _ _ hw555_1; first | rwa [add_block] at this | exact this) GW551.out))) _).trans (((cell_far (p := ⟨gb551, _, none⟩) (by first | exact Nat.ne_of_lt (Nat.lt_of_lt_of_le (by have := World.block_lt_of_cell? _ _ hw555_1; first | rwa [add_block] at this | exact this) GW551.out) | (rw [add_block]; exact Nat.ne_of_lt (Nat.lt_of_lt_of_le (by have := World.block_lt_of_cell? _ _ hw555_1; first | rwa [add_block] at this | exact this) GW551.out)) | (show (Addr.add _ _).block ≠ _; rw [add_block]; exact Nat.ne_of_lt (Nat.lt_of_lt_of_le (by have := World.block_lt_of_cell? _ _ hw555_1; first | rwa [add_block] at this | exact this) GW551.out)) | (dsimp only; exact Nat.ne_of_lt (Nat.lt_of_lt_of_le (by have := World.block_lt_of_cell? _ _ hw555_1; first | rwa [add_block] at this | exact this) GW551.out))) _).trans (((cell_far (p := ⟨gb551, _, none⟩) (by first | exact Nat.ne_of_lt (Nat.lt_of_lt_of_le (by have := World.block_lt_of_cell? _ _ hw555_1; first | rwa [add_block] at this | exact this) GW551.out) | (rw [add_block]; exact Nat.ne_of_lt (Nat.lt_of_lt_of_le (by have := World.block_lt_of_cell? _ _ hw555_1; first | rwa [add_block] at this | exact this) GW551.out)) | (show (Addr.add _ _).block ≠ _; rw [add_block]; exact Nat.ne_of_lt (Nat.lt_of_lt_of_le (by have := World.block_lt_of_cell? _ _ hw555_1; first | rwa [add_block] at this | exact this) GW551.out)) | (dsimp only; exact Nat.ne_of_lt (Nat.lt_of_lt_of_le (by have := World.block_lt_of_cell? _ _ hw555_1; first | rwa [add_block] at this | exact this) GW551.out))) _).trans (hHeld.2.2.2.1)))))), ((cell_far (p := ⟨gb551, _, none⟩) (by first | exact Nat.ne_of_lt (Nat.lt_of_lt_of_le (by have := World.block_lt_of_cell? _ _ hw555_2; first | rwa [add_block] at this | exact this) GW551.out) | (rw [add_block]; exact Nat.ne_of_lt (Nat.lt_of_lt_of_le (by have := World.block_lt_of_cell? _ _ hw555_2; first | rwa [add_block] at this | exact this) GW551.out)) | (show (Addr.add _ _).block ≠ _; rw [add_block]; exact Nat.ne_of_lt (Nat.lt_of_lt_of_le (by have := World.block_lt_of_cell? _ _ hw555_2; first | rwa [add_block] at this | exact this) GW551.out)) | (dsimp only; exact Nat.ne_of_lt (Nat.lt_of_lt_of_le (by have := World.block_lt_of_cell? _ _ hw555_2; first | rwa [add_block] at this | exact this) GW551.out))) _).trans (((cell_far (p := ⟨gb551, _, none⟩) (by first | exact Nat.ne_of_lt (Nat.lt_of_lt_of_le (by have := World.block_lt_of_cell? _ _ hw555_2; first | rwa [add_block] at this | exact this) GW551.out) | (rw [add_block]; exact Nat.ne_of_lt (Nat.lt_of_lt_of_le (by have := World.block_lt_of_cell? _ _ hw555_2; first | rwa [add_block] at this | exact this) GW551.out)) | (show (Addr.add _ _).block ≠ _; rw [add_block]; exact Nat.ne_of_lt (Nat.lt_of_lt_of_le (by have := World.block_lt_of_cell? _ _ hw555_2; first | rwa [add_block] at this | exact this) GW551.out)) | (dsimp only; exact Nat.ne_of_lt (Nat.lt_of_lt_of_le (by have := World.block_lt_of_cell? _ _ hw555_2; first | rwa [add_block] at this | exact this) GW551.out))) _).trans (((cell_far (p := ⟨gb551, _, none⟩) (by first | exact Nat.ne_of_lt (Nat.lt_of_lt_of_le (by have := World.block_lt_of_cell? _ _ hw555_2; first | rwa [add_block] at this | exact this) GW551.out) | (rw [add_block]; exact Nat.ne_of_lt (Nat.lt_of_lt_of_le (by have := World.block_lt_of_cell? _ _ hw555_2; first | rwa [add_block] at this | exact this) GW551.out)) | (show (Addr.add _ _).block ≠ _; rw [add_block]; exact Nat.ne_of_lt (Nat.lt_of_lt_of_le (by have := World.block_lt_of_cell? _ _ hw555_2; first | rwa [add_block] at this | exact this) GW551.out)) | (dsimp only; exact Nat.ne_of_lt (Nat.lt_of_lt_of_le (by have := World.block_lt_of_cell? _ _ hw555_2; first | rwa [add_block] at this | exact this) GW551.out))) _).trans (hHeld.2.2.2.2))))))⟩ (fun hHeld => ?_)
                 clear hK K
                 refine done_ (done_of HT_.out (by kernel_rfl)) ?_
                 try go_wp2
                 have n0_ : Aside0 (Kd.S (Kd.slice 61 k61) 40 (((w21.setCell ⟨gb551, 0, none⟩ (.int .i64 ((rd_T61 (rd_L3 l1 x8_1) (ji12)).f0))).setCell ⟨gb551, 1, none⟩ (.int .i64 ((rd_T61 (rd_L3 l1 x8_1) (ji12)).f1))).setCell ⟨gb551, 2, none⟩ (.string ((rd_T61 (rd_L3 l1 x8_1) (ji12)).f2))) w.heap.size (fun k_ => some k_ ≠ (u9 : Value).ownBlock ∧ k_ ≠ gb551) u7 x7_1) := ⟨by (with_reducible repeat (first | apply Kd.S_alloc | apply Kd.S_drewN | apply Kd.S_drew)); exact Kd.S_mono (Kd.S_far (p := ⟨gb551, 2, none⟩) (Kd.S_far (p := ⟨gb551, 1, none⟩) (Kd.S_far (p := ⟨gb551, 0, none⟩) (Kd.S_mono HO_7.out (fun k_ hk => (⟨hk, hk.2⟩ : _ ∧ k_ ≠ gb551))) (fun _ hk => hk.2) (.int .i64 ((rd_T61 (rd_L3 l1 x8_1) (ji12)).f0))) (fun _ hk => hk.2) (.int .i64 ((rd_T61 (rd_L3 l1 x8_1) (ji12)).f1))) (fun _ hk => hk.2) (.string ((rd_T61 (rd_L3 l1 x8_1) (ji12)).f2))) (fun _ hk => ⟨hk.1.1, hk.1.2⟩)⟩
                 have n1_ : Aside0 (Kd.R k61 61 (((w21.setCell ⟨gb551, 0, none⟩ (.int .i64 ((rd_T61 (rd_L3 l1 x8_1) (ji12)).f0))).setCell ⟨gb551, 1, none⟩ (.int .i64 ((rd_T61 (rd_L3 l1 x8_1) (ji12)).f1))).setCell ⟨gb551, 2, none⟩ (.string ((rd_T61 (rd_L3 l1 x8_1) (ji12)).f2))) w.heap.size (fun k_ => k_ ≠ gb551) u9 x9_3) := ⟨by (with_reducible repeat (first | apply Kd.R_alloc | apply Kd.R_drewN | apply Kd.R_drew)); exact Kd.R_mono (Kd.R_far (p := ⟨gb551, 2, none⟩) (Kd.R_far (p := ⟨gb551, 1, none⟩) (Kd.R_far (p := ⟨gb551, 0, none⟩) (Kd.R_mono HO_9.out (fun k_ hk => (⟨hk, hk⟩ : _ ∧ k_ ≠ gb551))) (fun _ hk => hk.2) (.int .i64 ((rd_T61 (rd_L3 l1 x8_1) (ji12)).f0))) (fun _ hk => hk.2) (.int .i64 ((rd_T61 (rd_L3 l1 x8_1) (ji12)).f1))) (fun _ hk => hk.2) (.string ((rd_T61 (rd_L3 l1 x8_1) (ji12)).f2))) (fun _ hk => hk.1)⟩
                 have n2_ : Aside0 ((((w21.setCell ⟨gb551, 0, none⟩ (.int .i64 ((rd_T61 (rd_L3 l1 x8_1) (ji12)).f0))).setCell ⟨gb551, 1, none⟩ (.int .i64 ((rd_T61 (rd_L3 l1 x8_1) (ji12)).f1))).setCell ⟨gb551, 2, none⟩ (.string ((rd_T61 (rd_L3 l1 x8_1) (ji12)).f2))).heap[gb551]? = some (.cells #[.int .i64 ((rd_T61 (rd_L3 l1 x8_1) (ji12)).f0), .int .i64 ((rd_T61 (rd_L3 l1 x8_1) (ji12)).f1), .string ((rd_T61 (rd_L3 l1 x8_1) (ji12)).f2)] 61 (0, 0))) := ⟨by (with_reducible repeat (first | refine zN ?_ _ | refine zD ?_ | refine zA ?_ _)); refine blk_put (cs := #[.int .i64 ((rd_T61 (rd_L3 l1 x8_1) (ji12)).f0), .int .i64 ((rd_T61 (rd_L3 l1 x8_1) (ji12)).f1), .string (⟨#[]⟩ : ByteArray)]) ?_ 2 _ rfl; (with_reducible repeat (first | refine zN ?_ _ | refine zD ?_ | refine zA ?_ _)); refine blk_put (cs := #[.int .i64 ((rd_T61 (rd_L3 l1 x8_1) (ji12)).f0), .int .i64 0, .string (⟨#[]⟩ : ByteArray)]) ?_ 1 _ rfl; (with_reducible repeat (first | refine zN ?_ _ | refine zD ?_ | refine zA ?_ _)); refine blk_put (cs := #[.int .i64 0, .int .i64 0, .string (⟨#[]⟩ : ByteArray)]) ?_ 0 _ rfl; (with_reducible repeat (first | refine zN ?_ _ | refine zD ?_ | refine zA ?_ _)); exact BK551.out⟩
                 have n3_ : Aside0 (Below w.heap.size w (((w21.setCell ⟨gb551, 0, none⟩ (.int .i64 ((rd_T61 (rd_L3 l1 x8_1) (ji12)).f0))).setCell ⟨gb551, 1, none⟩ (.int .i64 ((rd_T61 (rd_L3 l1 x8_1) (ji12)).f1))).setCell ⟨gb551, 2, none⟩ (.string ((rd_T61 (rd_L3 l1 x8_1) (ji12)).f2)))) := ⟨by repeat (first | (with_reducible first | exact HB.out | apply yA | apply yN | apply yD | refine below_set ?_ GE551.out) | exact HB.out)⟩
                 (try clear HO_7)
                 (try clear HO_9)
                 (try clear BK551)
                 (try clear HB)
                 generalize (((w21.setCell ⟨gb551, 0, none⟩ (.int .i64 ((rd_T61 (rd_L3 l1 x8_1) (ji12)).f0))).setCell ⟨gb551, 1, none⟩ (.int .i64 ((rd_T61 (rd_L3 l1 x8_1) (ji12)).f1))).setCell ⟨gb551, 2, none⟩ (.string ((rd_T61 (rd_L3 l1 x8_1) (ji12)).f2))) = w25 at n0_ n1_ n2_ n3_ ⊢
                 have HO_7 := n0_
                 have HO_9 := n1_
                 have BK551 := n2_
                 have HB := n3_
                 clear n0_ n1_ n2_ n3_
                 have n0_ := Aside0.mk (Kd.S_drew HO_7.out)
                 have n1_ := Aside0.mk (Kd.R_drew HO_9.out)
                 have n2_ := Aside0.mk (blk_drew BK551.out)
                 have n3_ := Aside0.mk (below_drew1 HB.out)
                 clear HO_7
                 clear HO_9
                 clear BK551
                 clear HB
                 have HO_7 := n0_
                 have HO_9 := n1_
                 have BK551 := n2_
                 have HB := n3_
                 clear n0_ n1_ n2_ n3_
                 have p556 : 0 ≤ (x8_1 : Int) := of_decide_eq_true (by first | (with_reducible assumption) | assumption)
                 have q556 : x8_1 < (l1.length : Int) := of_decide_eq_true (by first | (with_reducible assumption) | assumption)
                 obtain ⟨ad556, A556_0, c556_0, e556, hx556_0, hl556_0, hi556_0⟩ := at_L3 HR1.out x8_1 p556 q556
                 have hw556_0 := hx556_0
                 obtain rfl : ad552 = ad556 := (by injection e556)
                 replace hx556_0 := (HB.out.cell (World.block_lt_of_cell? w _ hx556_0)).trans hx556_0
                 have HR556_0 := Aside0.mk hi556_0
                 have HC556_0 := Aside0.mk hl556_0
                 clear hi556_0 hl556_0
                 replace p556 := eq_true p556
                 replace q556 := eq_true q556
                 refine start_ (n := 12) (S := fun w' => w'.cell? ⟨gb551, 0, none⟩ = some (.int .i64 ((rd_T61 (rd_L3 l1 x8_1) (ji12)).f0)) ∧ w'.cell? ⟨gb551, 1, none⟩ = some (.int .i64 ((rd_T61 (rd_L3 l1 x8_1) (ji12)).f1)) ∧ w'.cell? ⟨gb551, 2, none⟩ = some (.string ((rd_T61 (rd_L3 l1 x8_1) (ji12)).f2)) ∧ w'.cell? (ad552.add (x8_1).toNat) = some (.slice A556_0 (rd_L3 l1 x8_1).length c556_0)) (ds := [11]) #[false, false, false, false, false, false, false, false, false, false, false, false] (by kernel_rfl) rfl rfl ⟨(blk_cell BK551.out 0).trans rfl, (blk_cell BK551.out 1).trans rfl, (blk_cell BK551.out 2).trans rfl, ((HB.out.cell (World.block_lt_of_cell? w _ hw556_0)).trans hw556_0)⟩ (fun hHeld => ?_); refine with_tabW tacticianref02_TameRows.tab12 tacticianref02_TameRows.bits12 (fun HT_ HW_ => ?_)
                 generalize w25.drew = w26 at HO_7 HO_9 BK551 HB HR556_0 hx556_0 hHeld ⊢
                 refine pure_ (i := 0) (N := some 49) (v := ?_) (a' := ?_) #[true, false, false, false, false, false, false, false, false, false, false, false] rfl rfl (any_of HT_.out (by kernel_rfl)) (fun _ _ _ h => h) (Or.inl ⟨by rfl, ?_⟩) ?_ ?_
                 rotate_left
                 ·intro w'
                  go_simp
                  with_reducible rfl
                 rotate_left
                 ·simp only [Act.put, List.setIfInBounds_toArray, List.set_cons_zero, List.set_cons_succ, i64_w, i32_w]
                  rfl
                 refine pure_ (i := 2) (N := some 51) (v := ?_) (a' := ?_) #[true, false, true, false, false, false, false, false, false, false, false, false] rfl rfl (any_of HT_.out (by kernel_rfl)) (fun _ _ _ h => h) (Or.inl ⟨by rfl, ?_⟩) ?_ ?_
                 rotate_left
                 ·intro w'
                  go_simp
                  with_reducible rfl
                 rotate_left
                 ·simp only [Act.put, List.setIfInBounds_toArray, List.set_cons_zero, List.set_cons_succ, i64_w, i32_w]
                  rfl
                 refine pure_ (i := 3) (N := some 52) (v := ?_) (a' := ?_) #[true, false, true, true, false, false, false, false, false, false, false, false] rfl rfl (any_of HT_.out (by kernel_rfl)) (fun _ _ _ h => h) (Or.inl ⟨by rfl, ?_⟩) ?_ ?_
                 rotate_left
                 ·intro w'
                  go_simp
                  with_reducible rfl
                 rotate_left
                 ·simp only [Act.put, List.setIfInBounds_toArray, List.set_cons_zero, List.set_cons_succ, i64_w, i32_w]
                  rfl
                 refine pure_ (i := 4) (N := some 53) (v := ?_) (a' := ?_) #[true, false, true, true, true, false, false, false, false, false, false, false] rfl rfl (any_of HT_.out (by kernel_rfl)) (fun _ _ _ h => h) (Or.inl ⟨by rfl, ?_⟩) ?_ ?_
                 rotate_left
                 ·intro w'
                  go_simp
                  with_reducible rfl
                 rotate_left
                 ·simp only [Act.put, List.setIfInBounds_toArray, List.set_cons_zero, List.set_cons_succ, i64_w, i32_w]
                  rfl
                 refine pure_ (i := 5) (N := some 54) (v := ?_) (a' := ?_) #[true, false, true, true, true, true, false, false, false, false, false, false] rfl rfl (any_of HT_.out (by kernel_rfl)) (fun _ _ _ h => h) (Or.inl ⟨by rfl, ?_⟩) ?_ ?_
                 rotate_left
                 ·intro w'
                  go_simp
                  with_reducible rfl
                 rotate_left
                 ·simp only [Act.put, List.setIfInBounds_toArray, List.set_cons_zero, List.set_cons_succ, i64_w, i32_w]
                  rfl
                 refine take_ (i := 1) (N := some 50) (v := ?_) (a' := ?_) #[true, true, true, true, true, true, false, false, false, false, false, false] rfl rfl (take_ofW HT_.out HW_.out (by kernel_rfl)) (fun _ _ _ h => h) (Or.inl ⟨by rfl, ?_⟩) hHeld ?_ ?_
                 rotate_left
                 ·rintro w' ⟨s0, s1, s2, s3⟩
                  go_simp
                  with_reducible rfl
                 rotate_left
                 ·simp only [Act.put, List.setIfInBounds_toArray, List.set_cons_zero, List.set_cons_succ, i64_w, i32_w]
                  rfl
                 refine take_ (i := 6) (N := some 55) (v := ?_) (a' := ?_) #[true, true, true, true, true, true, true, false, false, false, false, false] rfl rfl (take_ofW HT_.out HW_.out (by kernel_rfl)) (fun _ _ _ h => h) (Or.inl ⟨by rfl, ?_⟩) hHeld ?_ ?_
                 rotate_left
                 ·rintro w' ⟨s0, s1, s2, s3⟩
                  go_simp
                  with_reducible rfl
                 rotate_left
                 ·simp only [Act.put, List.setIfInBounds_toArray, List.set_cons_zero, List.set_cons_succ, i64_w, i32_w]
                  rfl
                 refine pure_ (i := 7) (N := some 56) (v := ?_) (a' := ?_) #[true, true, true, true, true, true, true, true, false, false, false, false] rfl rfl (any_of HT_.out (by kernel_rfl)) (fun _ _ _ h => h) (Or.inl ⟨by rfl, ?_⟩) ?_ ?_
                 rotate_left
                 ·intro w'
                  go_simp
                  with_reducible rfl
                 rotate_left
                 ·simp only [Act.put, List.setIfInBounds_toArray, List.set_cons_zero, List.set_cons_succ, i64_w, i32_w]
                  rfl
                 refine pure_ (i := 8) (N := some 57) (v := ?_) (a' := ?_) #[true, true, true, true, true, true, true, true, true, false, false, false] rfl rfl (any_of HT_.out (by kernel_rfl)) (fun _ _ _ h => h) (Or.inl ⟨by rfl, ?_⟩) ?_ ?_
                 rotate_left
                 ·intro w'
                  go_simp
                  with_reducible rfl
                 rotate_left
                 ·simp only [Act.put, List.setIfInBounds_toArray, List.set_cons_zero, List.set_cons_succ, i64_w, i32_w]
                  rfl
                 refine pure_ (i := 9) (N := some 58) (v := ?_) (a' := ?_) #[true, true, true, true, true, true, true, true, true, true, false, false] rfl rfl (any_of HT_.out (by kernel_rfl)) (fun _ _ _ h => h) (Or.inl ⟨by rfl, ?_⟩) ?_ ?_
                 rotate_left
                 ·intro w'
                  go_simp
                  with_reducible rfl
                 rotate_left
                 ·simp only [Act.put, List.setIfInBounds_toArray, List.set_cons_zero, List.set_cons_succ, i64_w, i32_w]
                  rfl
                 refine pure_ (i := 10) (N := some 59) (v := ?_) (a' := ?_) #[true, true, true, true, true, true, true, true, true, true, true, false] rfl rfl (any_of HT_.out (by kernel_rfl)) (fun _ _ _ h => h) (Or.inl ⟨by rfl, ?_⟩) ?_ ?_
                 rotate_left
                 ·intro w'
                  go_simp
                  with_reducible rfl
                 rotate_left
                 ·simp only [Act.put, List.setIfInBounds_toArray, List.set_cons_zero, List.set_cons_succ, i64_w, i32_w]
                  rfl
                 refine last_ (i := 11) (N := none) #[true, true, true, true, true, true, true, true, true, true, true, true] rfl rfl (one_of HT_.out (by kernel_rfl)) (by decide) (fun K hK => ?_)
                 have hs27 : w26.cell? ⟨gb551, 1, none⟩ = some (.int .i64 ((rd_T61 (rd_L3 l1 x8_1) (ji12)).f1)) := (blk_cell BK551.out 1).trans rfl
                 have hfs27 := blk_frozen BK551.out 1
                 refine skip_ (w1 := ?_) (by rfl) rfl ?_ ?_
                 rotate_left
                 ·go_simp
                  rfl
                 refine hK.out _ _ ?_
                 clear hK K
                 refine done_ (done_of HT_.out (by kernel_rfl)) ?_
                 try clear hx553_0
                 try clear hx554_0
                 try clear HS0_
                 try clear HS1_
                 try clear HS2_
                 try clear HS3_
                 try clear hHeld
                 try go_wp2
                 have n0_ : Aside0 (Kd.S (Kd.slice 61 k61) 40 (w26.setCell ⟨gb551, 1, none⟩ (.int .i64 (wrap64 (((rd_T61 (rd_L3 l1 x8_1) (ji12)).f1) + (wrap64 (Int.tdiv x10_3 ((rd_L3 l1 x8_1).length : Int))))))) w.heap.size (fun k_ => some k_ ≠ (u9 : Value).ownBlock ∧ k_ ≠ gb551) u7 x7_1) := ⟨by (with_reducible repeat (first | apply Kd.S_alloc | apply Kd.S_drewN | apply Kd.S_drew)); exact Kd.S_mono (Kd.S_far (p := ⟨gb551, 1, none⟩) (Kd.S_mono HO_7.out (fun k_ hk => (⟨hk, hk.2⟩ : _ ∧ k_ ≠ gb551))) (fun _ hk => hk.2) (.int .i64 (wrap64 (((rd_T61 (rd_L3 l1 x8_1) (ji12)).f1) + (wrap64 (Int.tdiv x10_3 ((rd_L3 l1 x8_1).length : Int))))))) (fun _ hk => ⟨hk.1.1, hk.1.2⟩)⟩
                 have n1_ : Aside0 (Kd.R k61 61 (w26.setCell ⟨gb551, 1, none⟩ (.int .i64 (wrap64 (((rd_T61 (rd_L3 l1 x8_1) (ji12)).f1) + (wrap64 (Int.tdiv x10_3 ((rd_L3 l1 x8_1).length : Int))))))) w.heap.size (fun k_ => k_ ≠ gb551) u9 x9_3) := ⟨by (with_reducible repeat (first | apply Kd.R_alloc | apply Kd.R_drewN | apply Kd.R_drew)); exact Kd.R_mono (Kd.R_far (p := ⟨gb551, 1, none⟩) (Kd.R_mono HO_9.out (fun k_ hk => (⟨hk, hk⟩ : _ ∧ k_ ≠ gb551))) (fun _ hk => hk.2) (.int .i64 (wrap64 (((rd_T61 (rd_L3 l1 x8_1) (ji12)).f1) + (wrap64 (Int.tdiv x10_3 ((rd_L3 l1 x8_1).length : Int))))))) (fun _ hk => hk.1)⟩
                 have n2_ : Aside0 ((w26.setCell ⟨gb551, 1, none⟩ (.int .i64 (wrap64 (((rd_T61 (rd_L3 l1 x8_1) (ji12)).f1) + (wrap64 (Int.tdiv x10_3 ((rd_L3 l1 x8_1).length : Int))))))).heap[gb551]? = some (.cells #[.int .i64 ((rd_T61 (rd_L3 l1 x8_1) (ji12)).f0), .int .i64 (wrap64 (((rd_T61 (rd_L3 l1 x8_1) (ji12)).f1) + (wrap64 (Int.tdiv x10_3 ((rd_L3 l1 x8_1).length : Int))))), .string ((rd_T61 (rd_L3 l1 x8_1) (ji12)).f2)] 61 (0, 0))) := ⟨by (with_reducible repeat (first | refine zN ?_ _ | refine zD ?_ | refine zA ?_ _)); refine blk_put (cs := #[.int .i64 ((rd_T61 (rd_L3 l1 x8_1) (ji12)).f0), .int .i64 ((rd_T61 (rd_L3 l1 x8_1) (ji12)).f1), .string ((rd_T61 (rd_L3 l1 x8_1) (ji12)).f2)]) ?_ 1 _ rfl; (with_reducible repeat (first | refine zN ?_ _ | refine zD ?_ | refine zA ?_ _)); exact BK551.out⟩
                 have n3_ : Aside0 (Below w.heap.size w (w26.setCell ⟨gb551, 1, none⟩ (.int .i64 (wrap64 (((rd_T61 (rd_L3 l1 x8_1) (ji12)).f1) + (wrap64 (Int.tdiv x10_3 ((rd_L3 l1 x8_1).length : Int)))))))) := ⟨by repeat (first | (with_reducible first | exact HB.out | apply yA | apply yN | apply yD | refine below_set ?_ GE551.out) | exact HB.out)⟩
                 (try clear HO_7)
                 (try clear HO_9)
                 (try clear BK551)
                 (try clear HB)
                 generalize (w26.setCell ⟨gb551, 1, none⟩ (.int .i64 (wrap64 (((rd_T61 (rd_L3 l1 x8_1) (ji12)).f1) + (wrap64 (Int.tdiv x10_3 ((rd_L3 l1 x8_1).length : Int))))))) = w28 at n0_ n1_ n2_ n3_ ⊢
                 have HO_7 := n0_
                 have HO_9 := n1_
                 have BK551 := n2_
                 have HB := n3_
                 clear n0_ n1_ n2_ n3_
                 have n0_ := Aside0.mk (Kd.S_drew HO_7.out)
                 have n1_ := Aside0.mk (Kd.R_drew HO_9.out)
                 have n2_ := Aside0.mk (blk_drew BK551.out)
                 have n3_ := Aside0.mk (below_drew1 HB.out)
                 clear HO_7
                 clear HO_9
                 clear BK551
                 clear HB
                 have HO_7 := n0_
                 have HO_9 := n1_
                 have BK551 := n2_
                 have HB := n3_
                 clear n0_ n1_ n2_ n3_
                 have p557 : 0 ≤ (x10_3 : Int) := of_decide_eq_true (by first | (with_reducible assumption) | assumption)
                 have q557 : x10_3 < (l0.length : Int) := of_decide_eq_true (by first | (with_reducible assumption) | assumption)
                 obtain ⟨ad557, e557, hx557_0, hx557_1⟩ := at_T88 HR0.out x10_3 p557 q557
                 have hw557_1 := hx557_1
                 have hw557_0 := hx557_0
                 cases e557
                 replace hx557_0 := (HB.out.cell (World.block_lt_of_cell? w _ hx557_0)).trans hx557_0
                 replace hx557_1 := (HB.out.cell (World.block_lt_of_cell? w _ hx557_1)).trans hx557_1
                 replace p557 := eq_true p557
                 replace q557 := eq_true q557
                 refine start_ (n := 10) (S := fun w' => w'.cell? ⟨gb551, 0, none⟩ = some (.int .i64 ((rd_T61 (rd_L3 l1 x8_1) (ji12)).f0)) ∧ w'.cell? ⟨gb551, 1, none⟩ = some (.int .i64 (wrap64 (((rd_T61 (rd_L3 l1 x8_1) (ji12)).f1) + (wrap64 (Int.tdiv x10_3 ((rd_L3 l1 x8_1).length : Int)))))) ∧ w'.cell? ⟨gb551, 2, none⟩ = some (.string ((rd_T61 (rd_L3 l1 x8_1) (ji12)).f2)) ∧ w'.cell? (ad557.add ((x10_3).toNat * 2)) = some (.int .i64 ((rd_T88 l0 x10_3).f0)) ∧ w'.cell? ⟨(ad557.add ((x10_3).toNat * 2)).block, (ad557.add ((x10_3).toNat * 2)).off + 1, none⟩ = some (.bool ((rd_T88 l0 x10_3).f1))) (ds := []) #[false, false, false, false, false, false, false, false, false, false] (by kernel_rfl) rfl rfl ⟨(blk_cell BK551.out 0).trans rfl, (blk_cell BK551.out 1).trans rfl, (blk_cell BK551.out 2).trans rfl, ((HB.out.cell (World.block_lt_of_cell? w _ hw557_0)).trans hw557_0), ((HB.out.cell (World.block_lt_of_cell? w _ hw557_1)).trans hw557_1)⟩ (fun hHeld => ?_); refine with_tabW tacticianref02_TameRows.tab13 tacticianref02_TameRows.bits13 (fun HT_ HW_ => ?_)
                 generalize w28.drew = w29 at HO_7 HO_9 BK551 HB hx557_0 hx557_1 hHeld ⊢
                 refine pure_ (i := 0) (N := some 60) (v := ?_) (a' := ?_) #[true, false, false, false, false, false, false, false, false, false] rfl rfl (any_of HT_.out (by kernel_rfl)) (fun _ _ _ h => h) (Or.inl ⟨by rfl, ?_⟩) ?_ ?_
                 rotate_left
                 ·intro w'
                  go_simp
                  with_reducible rfl
                 rotate_left
                 ·simp only [Act.put, List.setIfInBounds_toArray, List.set_cons_zero, List.set_cons_succ, i64_w, i32_w]
                  rfl
                 refine pure_ (i := 2) (N := some 62) (v := ?_) (a' := ?_) #[true, false, true, false, false, false, false, false, false, false] rfl rfl (any_of HT_.out (by kernel_rfl)) (fun _ _ _ h => h) (Or.inl ⟨by rfl, ?_⟩) ?_ ?_
                 rotate_left
                 ·intro w'
                  go_simp
                  with_reducible rfl
                 rotate_left
                 ·simp only [Act.put, List.setIfInBounds_toArray, List.set_cons_zero, List.set_cons_succ, i64_w, i32_w]
                  rfl
                 refine pure_ (i := 3) (N := some 63) (v := ?_) (a' := ?_) #[true, false, true, true, false, false, false, false, false, false] rfl rfl (any_of HT_.out (by kernel_rfl)) (fun _ _ _ h => h) (Or.inl ⟨by rfl, ?_⟩) ?_ ?_
                 rotate_left
                 ·intro w'
                  go_simp
                  with_reducible rfl
                 rotate_left
                 ·simp only [Act.put, List.setIfInBounds_toArray, List.set_cons_zero, List.set_cons_succ, i64_w, i32_w]
                  rfl
                 refine pure_ (i := 4) (N := some 64) (v := ?_) (a' := ?_) #[true, false, true, true, true, false, false, false, false, false] rfl rfl (any_of HT_.out (by kernel_rfl)) (fun _ _ _ h => h) (Or.inl ⟨by rfl, ?_⟩) ?_ ?_
                 rotate_left
                 ·intro w'
                  go_simp
                  with_reducible rfl
                 rotate_left
                 ·simp only [Act.put, List.setIfInBounds_toArray, List.set_cons_zero, List.set_cons_succ, i64_w, i32_w]
                  rfl
                 refine take_ (i := 1) (N := some 61) (v := ?_) (a' := ?_) #[true, true, true, true, true, false, false, false, false, false] rfl rfl (take_ofW HT_.out HW_.out (by kernel_rfl)) (fun _ _ _ h => h) (Or.inl ⟨by rfl, ?_⟩) hHeld ?_ ?_
                 rotate_left
                 ·rintro w' ⟨s0, s1, s2, s3, s4⟩
                  go_simp
                  with_reducible rfl
                 rotate_left
                 ·simp only [Act.put, List.setIfInBounds_toArray, List.set_cons_zero, List.set_cons_succ, i64_w, i32_w]
                  rfl
                 refine take_ (i := 5) (N := some 65) (v := ?_) (a' := ?_) #[true, true, true, true, true, true, false, false, false, false] rfl rfl (take_ofW HT_.out HW_.out (by kernel_rfl)) (fun _ _ _ h => h) (Or.inl ⟨by rfl, ?_⟩) hHeld ?_ ?_
                 rotate_left
                 ·rintro w' ⟨s0, s1, s2, s3, s4⟩
                  go_simp
                  with_reducible rfl
                 rotate_left
                 ·simp only [Act.put, List.setIfInBounds_toArray, List.set_cons_zero, List.set_cons_succ, i64_w, i32_w]
                  rfl
                 refine one_ (i := 6) (N := some 66) #[true, true, true, true, true, true, true, false, false, false] rfl rfl (one_of HT_.out (by kernel_rfl)) (by decide) (fun K hK => ?_)
                 refine goes_ Tryz.func112 (by kernel_rfl) rfl #[.agg #[.int .i64 ((rd_T61 (rd_L3 l1 x8_1) (ji12)).f0), .int .i64 (wrap64 (((rd_T61 (rd_L3 l1 x8_1) (ji12)).f1) + (wrap64 (Int.tdiv x10_3 ((rd_L3 l1 x8_1).length : Int))))), .string ((rd_T61 (rd_L3 l1 x8_1) (ji12)).f2)], .agg #[.int .i64 ((rd_T88 l0 x10_3).f0), .bool ((rd_T88 l0 x10_3).f1)]] (by rfl) rfl rfl (by (try simp only [List.map_toArray, List.map_cons, List.map_nil]); first | done | (simp only [hji12]; rfl) | rfl | (simp only [List.length_drop, List.length_take]; rfl)) ?_
                 with_reducible refine (tacticianref01_TameAs.calls k3 ((rd_T61 (rd_L3 l1 x8_1) (ji12)).f0) (wrap64 (((rd_T61 (rd_L3 l1 x8_1) (ji12)).f1) + (wrap64 (Int.tdiv x10_3 ((rd_L3 l1 x8_1).length : Int))))) ((rd_T61 (rd_L3 l1 x8_1) (ji12)).f2) ((rd_T88 l0 x10_3).f0) ((rd_T88 l0 x10_3).f1) t558 t559 t560 _ A16.out).mono ?_
                 rintro e w30 ⟨rfl, hb⟩
                 refine ⟨_, rfl, ?_⟩
                 have n0_ := Aside0.mk (Kd.S_below (by (with_reducible repeat (first | apply Kd.S_alloc | apply Kd.S_drewN | apply Kd.S_drew)); exact HO_7.out) hb)
                 have n1_ := Aside0.mk (Kd.R_below (by (with_reducible repeat (first | apply Kd.R_alloc | apply Kd.R_drewN | apply Kd.R_drew)); exact HO_9.out) hb)
                 have n2_ := Aside0.mk (blk_below (g := gb551) (o := .cells #[.int .i64 ((rd_T61 (rd_L3 l1 x8_1) (ji12)).f0), .int .i64 (wrap64 (((rd_T61 (rd_L3 l1 x8_1) (ji12)).f1) + (wrap64 (Int.tdiv x10_3 ((rd_L3 l1 x8_1).length : Int))))), .string ((rd_T61 (rd_L3 l1 x8_1) (ji12)).f2)] 61 (0, 0)) (by (with_reducible repeat (first | refine zN ?_ _ | refine zD ?_ | refine zA ?_ _)); exact BK551.out) hb)
                 have n3_ := Aside0.mk (below_step (by repeat (first | (with_reducible first | exact HB.out | apply yA | apply yN | apply yD | refine below_set ?_ GE551.out) | exact HB.out)) hb)
                 clear HO_7
                 clear HO_9
                 clear BK551
                 clear HB
                 have HO_7 := n0_
                 have HO_9 := n1_
                 have BK551 := n2_
                 have HB := n3_
                 clear n0_ n1_ n2_ n3_
                 (try clear hb)
                 (try clear hb2)
                 (try clear hk)
                 (try clear hi)
                 refine hK.out _ _ ⟨(blk_cell BK551.out 0).trans rfl, (blk_cell BK551.out 1).trans rfl, (blk_cell BK551.out 2).trans rfl, ((HB.out.cell (World.block_lt_of_cell? w _ hw557_0)).trans hw557_0), ((HB.out.cell (World.block_lt_of_cell? w _ hw557_1)).trans hw557_1)⟩ (fun hHeld => ?_)
                 clear hK K
                 refine norm_ (a' := ?_) ?_ ?_
                 rotate_left
                 ·show Act.put _ (some 66) _ = _
                  simp only [Act.put, List.setIfInBounds_toArray, List.set_cons_zero, List.set_cons_succ, i64_w, i32_w]
                  rfl
                 refine one_ (i := 7) (N := some 67) #[true, true, true, true, true, true, true, true, false, false] rfl rfl (one_of HT_.out (by kernel_rfl)) (by decide) (fun K hK => ?_)
                 refine value_ (w1 := ?_) (v := ?_) (by rfl) rfl ?_ ?_
                 rotate_left 2
                 ·go_simp
                  constructor
                  ·rfl
                  ·rfl
                 refine hK.out _ _ ⟨(blk_cell (blk_alloc BK551.out _) 0).trans rfl, (blk_cell (blk_alloc BK551.out _) 1).trans rfl, (blk_cell (blk_alloc BK551.out _) 2).trans rfl, (World.cell?_alloc_lt _ _ _ (World.block_lt_of_cell? _ _ (((HB.out.cell (World.block_lt_of_cell? w _ hw557_0)).trans hw557_0)))).trans (((HB.out.cell (World.block_lt_of_cell? w _ hw557_0)).trans hw557_0)), (World.cell?_alloc_lt _ _ _ (World.block_lt_of_cell? _ _ (((HB.out.cell (World.block_lt_of_cell? w _ hw557_1)).trans hw557_1)))).trans (((HB.out.cell (World.block_lt_of_cell? w _ hw557_1)).trans hw557_1))⟩ (fun hHeld => ?_)
                 clear hK K
                 refine norm_ (a' := ?_) ?_ ?_
                 rotate_left
                 ·show Act.put _ (some 67) _ = _
                  simp only [Act.put, List.setIfInBounds_toArray, List.set_cons_zero, List.set_cons_succ, i64_w, i32_w]
                  rfl
                 refine one_ (i := 8) (N := some 68) #[true, true, true, true, true, true, true, true, true, false] rfl rfl (one_of HT_.out (by kernel_rfl)) (by decide) (fun K hK => ?_)
                 refine Kd.R_append_step k61 (w0 := w) w.heap.size (by rfl) (.tmp 60) (.tmp 67) 40 61 (.agg #[(.int .i64 0), (.int .i64 0), (.string ⟨#[]⟩)]) 32 rfl Tryz.underlying40 info61 rfl (by decide) (by omega) u9 x9_3 (⟨t558, t559, t560⟩ : S61) [.int .i64 t558, .int .i64 t559, .string t560] (fun k_ => k_ ≠ gb551) (fun _ => False) rfl rfl ?aP (fun _ hk => hk.elim) ?aF ?aO ?aB ?aS ?aL ?_
                 (case aP => exact k61_mkM _ _ _ (⟨t558, t559, t560⟩ : S61))
                 (case aB => exact (by repeat (first | (with_reducible first | exact HB.out | apply yA | apply yN | apply yD | refine below_set ?_ GE551.out) | exact HB.out)))
                 (case aF => exact (fun k_ hk => Kd.freshB (g := gb551) (o := .cells #[.int .i64 ((rd_T61 (rd_L3 l1 x8_1) (ji12)).f0), .int .i64 (wrap64 (((rd_T61 (rd_L3 l1 x8_1) (ji12)).f1) + (wrap64 (Int.tdiv x10_3 ((rd_L3 l1 x8_1).length : Int))))), .string ((rd_T61 (rd_L3 l1 x8_1) (ji12)).f2)] 61 (0, 0)) (by (with_reducible repeat (first | refine zN ?_ _ | refine zD ?_ | refine zA ?_ _)); exact BK551.out) k_ hk))
                 (case aO => exact (by (with_reducible repeat (first | apply Kd.R_alloc | apply Kd.R_drewN | apply Kd.R_drew)); exact HO_9.out))
                 (case aS => exact (below_size (by repeat (first | (with_reducible first | exact HB.out | apply yA | apply yN | apply yD | refine below_set ?_ GE551.out) | exact HB.out))))
                 (case aL => have := LMc17.out; omega)
                 intro v562 w31 ho hb hg hat
                 rw [← Ny561.out] at ho
                 have n0_ := Aside0.mk (Kd.S_after (ok := (fun k_ => k_ ≠ gb551)) (by (with_reducible repeat (first | apply Kd.S_alloc | apply Kd.S_drewN | apply Kd.S_drew)); exact Kd.S_mono HO_7.out (fun _ hk => ⟨hk.2, hk.1⟩)) hg hat)
                 have n1_ := Aside0.mk (blk_grown (g := gb551) (o := .cells #[.int .i64 ((rd_T61 (rd_L3 l1 x8_1) (ji12)).f0), .int .i64 (wrap64 (((rd_T61 (rd_L3 l1 x8_1) (ji12)).f1) + (wrap64 (Int.tdiv x10_3 ((rd_L3 l1 x8_1).length : Int))))), .string ((rd_T61 (rd_L3 l1 x8_1) (ji12)).f2)] 61 (0, 0)) (by (with_reducible repeat (first | refine zN ?_ _ | refine zD ?_ | refine zA ?_ _)); exact BK551.out) hg (Kd.R_away HO_9.out (fun _ hk => hk)))
                 have n2_ := Aside0.mk (hb)
                 have n3_ := Aside0.mk (ho)
                 clear HO_7
                 clear BK551
                 clear HB
                 clear HO_9
                 have HO_7 := n0_
                 have BK551 := n1_
                 have HB := n2_
                 have HO563 := n3_
                 clear n0_ n1_ n2_ n3_
                 clear ho hb hg hat
                 refine hK.out _ _ ⟨(blk_cell BK551.out 0).trans rfl, (blk_cell BK551.out 1).trans rfl, (blk_cell BK551.out 2).trans rfl, ((HB.out.cell (World.block_lt_of_cell? w _ hw557_0)).trans hw557_0), ((HB.out.cell (World.block_lt_of_cell? w _ hw557_1)).trans hw557_1)⟩ (fun hHeld => ?_)
                 clear hK K
                 refine norm_ (a' := ?_) ?_ ?_
                 rotate_left
                 ·show Act.put _ (some 68) _ = _
                  simp only [Act.put, List.setIfInBounds_toArray, List.set_cons_zero, List.set_cons_succ, i64_w, i32_w]
                  rfl
                 refine pure_ (i := 9) (N := some 9) (v := ?_) (a' := ?_) #[true, true, true, true, true, true, true, true, true, true] rfl rfl (any_of HT_.out (by kernel_rfl)) (fun _ _ _ h => h) (Or.inl ⟨by rfl, ?_⟩) ?_ ?_
                 rotate_left
                 ·intro w'
                  go_simp
                  with_reducible rfl
                 rotate_left
                 ·simp only [Act.put, List.setIfInBounds_toArray, List.set_cons_zero, List.set_cons_succ, i64_w, i32_w]
                  rfl
                 refine done_ (done_of HT_.out (by kernel_rfl)) ?_
                 try go_wp2
                 go_roundg k3
                 case measure => have := HK1.out; have := HJ3.out; have := HK3.out; omega
                 case rel => exact ⟨(y561), (wrap64 (x10_3 + 1)), (by first | rfl | (simp; done) | (simp [*]; done)), H', ⟨by have := HK1.out; have := HJ3.out; have := HK3.out; omega⟩, ⟨by (with_reducible repeat (first | apply Kd.S_alloc | apply Kd.S_drewN | apply Kd.S_drew)); exact Kd.S_mono HO_7.out (fun _ hk => hk.2)⟩, ⟨by (with_reducible repeat (first | apply Kd.R_alloc | apply Kd.R_drewN | apply Kd.R_drew)); exact Kd.R_mono HO563.out (fun _ hk => trivial)⟩, ⟨by repeat (first | (with_reducible first | exact HB.out | apply yA | apply yN | apply yD | refine below_set ?_ GE551.out) | exact HB.out)⟩⟩
                ·rw [if_neg c17] at H
                 exact absurd H (by simp)
               ·rw [if_neg c15] at H
                exact absurd H (by simp)
              ·rw [if_neg c14] at H
               exact absurd H (by simp)
             ·rw [if_neg c13] at H
              exact absurd H (by simp)
           ·rw [if_neg c10] at H
            have c10b0 : decide (0 < ((rd_L3 l1 x8_1).length : Int)) = false := decide_eq_false c10
            have c10b1 : decide (0 < (rd_L3 l1 x8_1).length) = false := decide_eq_false (by omega)
            clear c10
            by_cases c32 : 0 ≤ x10_3
            ·rw [if_pos c32] at H
             have c32b0 : decide (0 ≤ x10_3) = true := decide_eq_true c32
             clear c32
             replace H := Option.bind_eq_some_iff.mp H
             obtain ⟨⟨t565, t566, t567⟩, A330, H⟩ := H
             replace H : (if x9_3.length < 4398046511104 then (tacticianref02_TameRows.l1 k3 l0 l1 a2 x7_1 x8_1 (x9_3 ++ [(⟨t565, t566, t567⟩ : S61)]) (wrap64 (x10_3 + 1))) else (none)) = some r := H
             have A33 := Aside0.mk A330
             clear A330
             by_cases c34 : x9_3.length < 4398046511104
             ·rw [if_pos c34] at H
              have LMc34 := Aside0.mk c34
              clear c34
              obtain ⟨y568, hy568⟩ : ∃ y_ : List (S61), y_ = (x9_3 ++ [(⟨t565, t566, t567⟩ : S61)]) := ⟨_, rfl⟩
              replace H : (tacticianref02_TameRows.l1 k3 l0 l1 a2 x7_1 x8_1 y568 (wrap64 (x10_3 + 1))) = some r := by first | (rw [hy568]; with_reducible exact H) | (have H2_ := (Option.bind_some _ _).symm.trans H; rw [hy568]; with_reducible exact H2_) | (have H2_ := (Option.bind_some _ _).symm.trans H; with_reducible exact H2_) | with_reducible exact H | (rw [hy568]; exact H) | exact H
              have Ny568 := Aside0.mk hy568
              clear hy568
              have H' := Aside0.mk H
              clear H
              try go_wp2_with (first | ((with_reducible refine gate_dst (N := 11) rfl ?_); refine box_event ?hg (N := 11) ?hd (cs := #[.int .i64 0, .int .i64 0, .string (⟨#[]⟩ : ByteArray)]) (t := 61) ?hr ?_; (case hd => rfl); (case hg => rfl); (case hr => first | (go_simp; done) | (go_simp; rfl)); intro gb551 hg w35 hbox hb; have n0_ := Aside0.mk (Kd.S_below (Kd.S_elderB (by (with_reducible repeat (first | apply Kd.S_alloc | apply Kd.S_drewN | apply Kd.S_drew)); exact HO_7.out) gb551 (Nat.le_of_eq hg.symm)) hb); have n1_ := Aside0.mk (Kd.R_below (Kd.R_elderB (by (with_reducible repeat (first | apply Kd.R_alloc | apply Kd.R_drewN | apply Kd.R_drew)); exact HO_9.out) gb551 (Nat.le_of_eq hg.symm)) hb); have n2_ := Aside0.mk (below_step (by repeat (first | (with_reducible first | exact HB.out | apply yA | apply yN | apply yD) | exact HB.out)) hb); have n3_ := Aside0.mk (hbox); have n4_ := Aside0.mk ((by rw [hg]; exact (below_size (by repeat (first | (with_reducible first | exact HB.out | apply yA | apply yN | apply yD) | exact HB.out))) : w.heap.size ≤ gb551)); have n5_ := Aside0.mk ((by rw [hg]; exact (below_size (by repeat (first | (with_reducible first | exact HB.out | apply yA | apply yN | apply yD) | exact HB.out))) : w.heap.size ≤ gb551)); clear HO_7; clear HO_9; clear HB; have HO_7 := n0_; have HO_9 := n1_; have HB := n2_; have BK551 := n3_; have GW551 := n4_; have GE551 := n5_; clear n0_ n1_ n2_ n3_ n4_ n5_; clear hb hbox hg; have hcz36_0 : w35.cell? ⟨gb551, 0, none⟩ = some (.int .i64 0) := (blk_cell BK551.out 0).trans rfl; have hcz36_1 : w35.cell? ⟨gb551, 1, none⟩ = some (.int .i64 0) := (blk_cell BK551.out 1).trans rfl; have hcz36_2 : w35.cell? ⟨gb551, 2, none⟩ = some (.string (⟨#[]⟩ : ByteArray)) := (blk_cell BK551.out 2).trans rfl; have hfz36_0 := blk_frozen BK551.out 0; have hfz36_1 := blk_frozen BK551.out 1; have hfz36_2 := blk_frozen BK551.out 2; have p552 : 0 ≤ (x8_1 : Int) := of_decide_eq_true (by first | (with_reducible assumption) | assumption); have q552 : x8_1 < (l1.length : Int) := of_decide_eq_true (by first | (with_reducible assumption) | assumption); obtain ⟨ad552, A552_0, c552_0, e552, hx552_0, hl552_0, hi552_0⟩ := at_L3 HR1.out x8_1 p552 q552; cases e552; have hn552_0 : ad552.block ≠ gb551 := Nat.ne_of_lt (Nat.lt_of_lt_of_le (by have := World.block_lt_of_cell? _ _ hx552_0; first | rwa [add_block] at this | exact this) GW551.out); have hn552_1 : ad552.block ≠ gb551 := Nat.ne_of_lt (Nat.lt_of_lt_of_le (by have := World.block_lt_of_cell? _ _ hx552_0; first | rwa [add_block] at this | exact this) GW551.out); have hn552_2 : ad552.block ≠ gb551 := Nat.ne_of_lt (Nat.lt_of_lt_of_le (by have := World.block_lt_of_cell? _ _ hx552_0; first | rwa [add_block] at this | exact this) GW551.out); replace hx552_0 := (HB.out.cell (World.block_lt_of_cell? w _ hx552_0)).trans hx552_0; have HR552_0 := Aside0.mk hi552_0; have HC552_0 := Aside0.mk hl552_0; clear hi552_0 hl552_0; replace hx552_0 := (cell_far (p := ⟨gb551, 0, none⟩) (by first | (rw [add_block]; exact hn552_0) | (show (Addr.add _ _).block ≠ _; rw [add_block]; exact hn552_0) | exact hn552_0) (.int .i64 0)).trans hx552_0; replace hx552_0 := (cell_far (p := ⟨gb551, 1, none⟩) (by first | (rw [add_block]; exact hn552_1) | (show (Addr.add _ _).block ≠ _; rw [add_block]; exact hn552_1) | exact hn552_1) (.int .i64 0)).trans hx552_0; replace hx552_0 := (cell_far (p := ⟨gb551, 2, none⟩) (by first | (rw [add_block]; exact hn552_2) | (show (Addr.add _ _).block ≠ _; rw [add_block]; exact hn552_2) | exact hn552_2) (.string (⟨#[]⟩ : ByteArray))).trans hx552_0; clear hn552_0; clear hn552_1; clear hn552_2; replace p552 := eq_true p552; replace q552 := eq_true q552))
              have n0_ : Aside0 (Kd.S (Kd.slice 61 k61) 40 (((w35.setCell ⟨gb551, 0, none⟩ (.int .i64 0)).setCell ⟨gb551, 1, none⟩ (.int .i64 0)).setCell ⟨gb551, 2, none⟩ (.string (⟨#[]⟩ : ByteArray))) w.heap.size (fun k_ => some k_ ≠ (u9 : Value).ownBlock ∧ k_ ≠ gb551) u7 x7_1) := ⟨by (with_reducible repeat (first | apply Kd.S_alloc | apply Kd.S_drewN | apply Kd.S_drew)); exact Kd.S_mono (Kd.S_far (p := ⟨gb551, 2, none⟩) (Kd.S_far (p := ⟨gb551, 1, none⟩) (Kd.S_far (p := ⟨gb551, 0, none⟩) (Kd.S_mono HO_7.out (fun k_ hk => (⟨hk, hk.2⟩ : _ ∧ k_ ≠ gb551))) (fun _ hk => hk.2) (.int .i64 0)) (fun _ hk => hk.2) (.int .i64 0)) (fun _ hk => hk.2) (.string (⟨#[]⟩ : ByteArray))) (fun _ hk => ⟨hk.1.1, hk.1.2⟩)⟩
              have n1_ : Aside0 (Kd.R k61 61 (((w35.setCell ⟨gb551, 0, none⟩ (.int .i64 0)).setCell ⟨gb551, 1, none⟩ (.int .i64 0)).setCell ⟨gb551, 2, none⟩ (.string (⟨#[]⟩ : ByteArray))) w.heap.size (fun k_ => k_ ≠ gb551) u9 x9_3) := ⟨by (with_reducible repeat (first | apply Kd.R_alloc | apply Kd.R_drewN | apply Kd.R_drew)); exact Kd.R_mono (Kd.R_far (p := ⟨gb551, 2, none⟩) (Kd.R_far (p := ⟨gb551, 1, none⟩) (Kd.R_far (p := ⟨gb551, 0, none⟩) (Kd.R_mono HO_9.out (fun k_ hk => (⟨hk, hk.2⟩ : _ ∧ k_ ≠ gb551))) (fun _ hk => hk.2) (.int .i64 0)) (fun _ hk => hk.2) (.int .i64 0)) (fun _ hk => hk.2) (.string (⟨#[]⟩ : ByteArray))) (fun _ hk => hk.1.2)⟩
              have n2_ : Aside0 ((((w35.setCell ⟨gb551, 0, none⟩ (.int .i64 0)).setCell ⟨gb551, 1, none⟩ (.int .i64 0)).setCell ⟨gb551, 2, none⟩ (.string (⟨#[]⟩ : ByteArray))).heap[gb551]? = some (.cells #[.int .i64 0, .int .i64 0, .string (⟨#[]⟩ : ByteArray)] 61 (0, 0))) := ⟨by (with_reducible repeat (first | refine zN ?_ _ | refine zD ?_ | refine zA ?_ _)); refine blk_put (cs := #[.int .i64 0, .int .i64 0, .string (⟨#[]⟩ : ByteArray)]) ?_ 2 _ rfl; (with_reducible repeat (first | refine zN ?_ _ | refine zD ?_ | refine zA ?_ _)); refine blk_put (cs := #[.int .i64 0, .int .i64 0, .string (⟨#[]⟩ : ByteArray)]) ?_ 1 _ rfl; (with_reducible repeat (first | refine zN ?_ _ | refine zD ?_ | refine zA ?_ _)); refine blk_put (cs := #[.int .i64 0, .int .i64 0, .string (⟨#[]⟩ : ByteArray)]) ?_ 0 _ rfl; (with_reducible repeat (first | refine zN ?_ _ | refine zD ?_ | refine zA ?_ _)); exact BK551.out⟩
              have n3_ : Aside0 (Below w.heap.size w (((w35.setCell ⟨gb551, 0, none⟩ (.int .i64 0)).setCell ⟨gb551, 1, none⟩ (.int .i64 0)).setCell ⟨gb551, 2, none⟩ (.string (⟨#[]⟩ : ByteArray)))) := ⟨by repeat (first | (with_reducible first | exact HB.out | apply yA | apply yN | apply yD | refine below_set ?_ GE551.out) | exact HB.out)⟩
              (try clear HO_7)
              (try clear HO_9)
              (try clear BK551)
              (try clear HB)
              generalize (((w35.setCell ⟨gb551, 0, none⟩ (.int .i64 0)).setCell ⟨gb551, 1, none⟩ (.int .i64 0)).setCell ⟨gb551, 2, none⟩ (.string (⟨#[]⟩ : ByteArray))) = w37 at n0_ n1_ n2_ n3_ ⊢
              have HO_7 := n0_
              have HO_9 := n1_
              have BK551 := n2_
              have HB := n3_
              clear n0_ n1_ n2_ n3_
              have n0_ := Aside0.mk (Kd.S_drew HO_7.out)
              have n1_ := Aside0.mk (Kd.R_drew HO_9.out)
              have n2_ := Aside0.mk (blk_drew BK551.out)
              have n3_ := Aside0.mk (below_drew1 HB.out)
              clear HO_7
              clear HO_9
              clear BK551
              clear HB
              have HO_7 := n0_
              have HO_9 := n1_
              have BK551 := n2_
              have HB := n3_
              clear n0_ n1_ n2_ n3_
              have p564 : 0 ≤ (x10_3 : Int) := of_decide_eq_true (by first | (with_reducible assumption) | assumption)
              have q564 : x10_3 < (l0.length : Int) := of_decide_eq_true (by first | (with_reducible assumption) | assumption)
              obtain ⟨ad564, e564, hx564_0, hx564_1⟩ := at_T88 HR0.out x10_3 p564 q564
              have hw564_1 := hx564_1
              have hw564_0 := hx564_0
              cases e564
              replace hx564_0 := (HB.out.cell (World.block_lt_of_cell? w _ hx564_0)).trans hx564_0
              replace hx564_1 := (HB.out.cell (World.block_lt_of_cell? w _ hx564_1)).trans hx564_1
              replace p564 := eq_true p564
              replace q564 := eq_true q564
              refine start_ (n := 10) (S := fun w' => w'.cell? ⟨gb551, 0, none⟩ = some (.int .i64 0) ∧ w'.cell? ⟨gb551, 1, none⟩ = some (.int .i64 0) ∧ w'.cell? ⟨gb551, 2, none⟩ = some (.string (⟨#[]⟩ : ByteArray)) ∧ w'.cell? (ad564.add ((x10_3).toNat * 2)) = some (.int .i64 ((rd_T88 l0 x10_3).f0)) ∧ w'.cell? ⟨(ad564.add ((x10_3).toNat * 2)).block, (ad564.add ((x10_3).toNat * 2)).off + 1, none⟩ = some (.bool ((rd_T88 l0 x10_3).f1))) (ds := []) #[false, false, false, false, false, false, false, false, false, false] (by kernel_rfl) rfl rfl ⟨(blk_cell BK551.out 0).trans rfl, (blk_cell BK551.out 1).trans rfl, (blk_cell BK551.out 2).trans rfl, ((HB.out.cell (World.block_lt_of_cell? w _ hw564_0)).trans hw564_0), ((HB.out.cell (World.block_lt_of_cell? w _ hw564_1)).trans hw564_1)⟩ (fun hHeld => ?_); refine with_tabW tacticianref02_TameRows.tab13 tacticianref02_TameRows.bits13 (fun HT_ HW_ => ?_)
              generalize w37.drew = w38 at HO_7 HO_9 BK551 HB hx564_0 hx564_1 hHeld ⊢
              refine pure_ (i := 0) (N := some 60) (v := ?_) (a' := ?_) #[true, false, false, false, false, false, false, false, false, false] rfl rfl (any_of HT_.out (by kernel_rfl)) (fun _ _ _ h => h) (Or.inl ⟨by rfl, ?_⟩) ?_ ?_
              rotate_left
              ·intro w'
               go_simp
               with_reducible rfl
              rotate_left
              ·simp only [Act.put, List.setIfInBounds_toArray, List.set_cons_zero, List.set_cons_succ, i64_w, i32_w]
               rfl
              refine pure_ (i := 2) (N := some 62) (v := ?_) (a' := ?_) #[true, false, true, false, false, false, false, false, false, false] rfl rfl (any_of HT_.out (by kernel_rfl)) (fun _ _ _ h => h) (Or.inl ⟨by rfl, ?_⟩) ?_ ?_
              rotate_left
              ·intro w'
               go_simp
               with_reducible rfl
              rotate_left
              ·simp only [Act.put, List.setIfInBounds_toArray, List.set_cons_zero, List.set_cons_succ, i64_w, i32_w]
               rfl
              refine pure_ (i := 3) (N := some 63) (v := ?_) (a' := ?_) #[true, false, true, true, false, false, false, false, false, false] rfl rfl (any_of HT_.out (by kernel_rfl)) (fun _ _ _ h => h) (Or.inl ⟨by rfl, ?_⟩) ?_ ?_
              rotate_left
              ·intro w'
               go_simp
               with_reducible rfl
              rotate_left
              ·simp only [Act.put, List.setIfInBounds_toArray, List.set_cons_zero, List.set_cons_succ, i64_w, i32_w]
               rfl
              refine pure_ (i := 4) (N := some 64) (v := ?_) (a' := ?_) #[true, false, true, true, true, false, false, false, false, false] rfl rfl (any_of HT_.out (by kernel_rfl)) (fun _ _ _ h => h) (Or.inl ⟨by rfl, ?_⟩) ?_ ?_
              rotate_left
              ·intro w'
               go_simp
               with_reducible rfl
              rotate_left
              ·simp only [Act.put, List.setIfInBounds_toArray, List.set_cons_zero, List.set_cons_succ, i64_w, i32_w]
               rfl
              refine take_ (i := 1) (N := some 61) (v := ?_) (a' := ?_) #[true, true, true, true, true, false, false, false, false, false] rfl rfl (take_ofW HT_.out HW_.out (by kernel_rfl)) (fun _ _ _ h => h) (Or.inl ⟨by rfl, ?_⟩) hHeld ?_ ?_
              rotate_left
              ·rintro w' ⟨s0, s1, s2, s3, s4⟩
               go_simp
               with_reducible rfl
              rotate_left
              ·simp only [Act.put, List.setIfInBounds_toArray, List.set_cons_zero, List.set_cons_succ, i64_w, i32_w]
               rfl
              refine take_ (i := 5) (N := some 65) (v := ?_) (a' := ?_) #[true, true, true, true, true, true, false, false, false, false] rfl rfl (take_ofW HT_.out HW_.out (by kernel_rfl)) (fun _ _ _ h => h) (Or.inl ⟨by rfl, ?_⟩) hHeld ?_ ?_
              rotate_left
              ·rintro w' ⟨s0, s1, s2, s3, s4⟩
               go_simp
               with_reducible rfl
              rotate_left
              ·simp only [Act.put, List.setIfInBounds_toArray, List.set_cons_zero, List.set_cons_succ, i64_w, i32_w]
               rfl
              refine one_ (i := 6) (N := some 66) #[true, true, true, true, true, true, true, false, false, false] rfl rfl (one_of HT_.out (by kernel_rfl)) (by decide) (fun K hK => ?_)
              refine goes_ Tryz.func112 (by kernel_rfl) rfl #[.agg #[.int .i64 0, .int .i64 0, .string (⟨#[]⟩ : ByteArray)], .agg #[.int .i64 ((rd_T88 l0 x10_3).f0), .bool ((rd_T88 l0 x10_3).f1)]] (by rfl) rfl rfl (by (try simp only [List.map_toArray, List.map_cons, List.map_nil]); first | done | rfl | (simp only [List.length_drop, List.length_take]; rfl)) ?_
              with_reducible refine (tacticianref01_TameAs.calls k3 0 0 (⟨#[]⟩ : ByteArray) ((rd_T88 l0 x10_3).f0) ((rd_T88 l0 x10_3).f1) t565 t566 t567 _ A33.out).mono ?_
              rintro e w39 ⟨rfl, hb⟩
              refine ⟨_, rfl, ?_⟩
              have n0_ := Aside0.mk (Kd.S_below (by (with_reducible repeat (first | apply Kd.S_alloc | apply Kd.S_drewN | apply Kd.S_drew)); exact HO_7.out) hb)
              have n1_ := Aside0.mk (Kd.R_below (by (with_reducible repeat (first | apply Kd.R_alloc | apply Kd.R_drewN | apply Kd.R_drew)); exact HO_9.out) hb)
              have n2_ := Aside0.mk (blk_below (g := gb551) (o := .cells #[.int .i64 0, .int .i64 0, .string (⟨#[]⟩ : ByteArray)] 61 (0, 0)) (by (with_reducible repeat (first | refine zN ?_ _ | refine zD ?_ | refine zA ?_ _)); exact BK551.out) hb)
              have n3_ := Aside0.mk (below_step (by repeat (first | (with_reducible first | exact HB.out | apply yA | apply yN | apply yD | refine below_set ?_ GE551.out) | exact HB.out)) hb)
              clear HO_7
              clear HO_9
              clear BK551
              clear HB
              have HO_7 := n0_
              have HO_9 := n1_
              have BK551 := n2_
              have HB := n3_
              clear n0_ n1_ n2_ n3_
              (try clear hb)
              (try clear hb2)
              (try clear hk)
              (try clear hi)
              refine hK.out _ _ ⟨(blk_cell BK551.out 0).trans rfl, (blk_cell BK551.out 1).trans rfl, (blk_cell BK551.out 2).trans rfl, ((HB.out.cell (World.block_lt_of_cell? w _ hw564_0)).trans hw564_0), ((HB.out.cell (World.block_lt_of_cell? w _ hw564_1)).trans hw564_1)⟩ (fun hHeld => ?_)
              clear hK K
              refine norm_ (a' := ?_) ?_ ?_
              rotate_left
              ·show Act.put _ (some 66) _ = _
               simp only [Act.put, List.setIfInBounds_toArray, List.set_cons_zero, List.set_cons_succ, i64_w, i32_w]
               rfl
              refine one_ (i := 7) (N := some 67) #[true, true, true, true, true, true, true, true, false, false] rfl rfl (one_of HT_.out (by kernel_rfl)) (by decide) (fun K hK => ?_)
              refine value_ (w1 := ?_) (v := ?_) (by rfl) rfl ?_ ?_
              rotate_left 2
              ·go_simp
               constructor
               ·rfl
               ·rfl
              refine hK.out _ _ ⟨(blk_cell (blk_alloc BK551.out _) 0).trans rfl, (blk_cell (blk_alloc BK551.out _) 1).trans rfl, (blk_cell (blk_alloc BK551.out _) 2).trans rfl, (World.cell?_alloc_lt _ _ _ (World.block_lt_of_cell? _ _ (((HB.out.cell (World.block_lt_of_cell? w _ hw564_0)).trans hw564_0)))).trans (((HB.out.cell (World.block_lt_of_cell? w _ hw564_0)).trans hw564_0)), (World.cell?_alloc_lt _ _ _ (World.block_lt_of_cell? _ _ (((HB.out.cell (World.block_lt_of_cell? w _ hw564_1)).trans hw564_1)))).trans (((HB.out.cell (World.block_lt_of_cell? w _ hw564_1)).trans hw564_1))⟩ (fun hHeld => ?_)
              clear hK K
              refine norm_ (a' := ?_) ?_ ?_
              rotate_left
              ·show Act.put _ (some 67) _ = _
               simp only [Act.put, List.setIfInBounds_toArray, List.set_cons_zero, List.set_cons_succ, i64_w, i32_w]
               rfl
              refine one_ (i := 8) (N := some 68) #[true, true, true, true, true, true, true, true, true, false] rfl rfl (one_of HT_.out (by kernel_rfl)) (by decide) (fun K hK => ?_)
              refine Kd.R_append_step k61 (w0 := w) w.heap.size (by rfl) (.tmp 60) (.tmp 67) 40 61 (.agg #[(.int .i64 0), (.int .i64 0), (.string ⟨#[]⟩)]) 32 rfl Tryz.underlying40 info61 rfl (by decide) (by omega) u9 x9_3 (⟨t565, t566, t567⟩ : S61) [.int .i64 t565, .int .i64 t566, .string t567] (fun k_ => k_ ≠ gb551) (fun _ => False) rfl rfl ?aP (fun _ hk => hk.elim) ?aF ?aO ?aB ?aS ?aL ?_
              (case aP => exact k61_mkM _ _ _ (⟨t565, t566, t567⟩ : S61))
              (case aB => exact (by repeat (first | (with_reducible first | exact HB.out | apply yA | apply yN | apply yD | refine below_set ?_ GE551.out) | exact HB.out)))
              (case aF => exact (fun k_ hk => Kd.freshB (g := gb551) (o := .cells #[.int .i64 0, .int .i64 0, .string (⟨#[]⟩ : ByteArray)] 61 (0, 0)) (by (with_reducible repeat (first | refine zN ?_ _ | refine zD ?_ | refine zA ?_ _)); exact BK551.out) k_ hk))
              (case aO => exact (by (with_reducible repeat (first | apply Kd.R_alloc | apply Kd.R_drewN | apply Kd.R_drew)); exact HO_9.out))
              (case aS => exact (below_size (by repeat (first | (with_reducible first | exact HB.out | apply yA | apply yN | apply yD | refine below_set ?_ GE551.out) | exact HB.out))))
              (case aL => have := LMc34.out; omega)
              intro v569 w40 ho hb hg hat
              rw [← Ny568.out] at ho
              have n0_ := Aside0.mk (Kd.S_after (ok := (fun k_ => k_ ≠ gb551)) (by (with_reducible repeat (first | apply Kd.S_alloc | apply Kd.S_drewN | apply Kd.S_drew)); exact Kd.S_mono HO_7.out (fun _ hk => ⟨hk.2, hk.1⟩)) hg hat)
              have n1_ := Aside0.mk (blk_grown (g := gb551) (o := .cells #[.int .i64 0, .int .i64 0, .string (⟨#[]⟩ : ByteArray)] 61 (0, 0)) (by (with_reducible repeat (first | refine zN ?_ _ | refine zD ?_ | refine zA ?_ _)); exact BK551.out) hg (Kd.R_away HO_9.out (fun _ hk => hk)))
              have n2_ := Aside0.mk (hb)
              have n3_ := Aside0.mk (ho)
              clear HO_7
              clear BK551
              clear HB
              clear HO_9
              have HO_7 := n0_
              have BK551 := n1_
              have HB := n2_
              have HO570 := n3_
              clear n0_ n1_ n2_ n3_
              clear ho hb hg hat
              refine hK.out _ _ ⟨(blk_cell BK551.out 0).trans rfl, (blk_cell BK551.out 1).trans rfl, (blk_cell BK551.out 2).trans rfl, ((HB.out.cell (World.block_lt_of_cell? w _ hw564_0)).trans hw564_0), ((HB.out.cell (World.block_lt_of_cell? w _ hw564_1)).trans hw564_1)⟩ (fun hHeld => ?_)
              clear hK K
              refine norm_ (a' := ?_) ?_ ?_
              rotate_left
              ·show Act.put _ (some 68) _ = _
               simp only [Act.put, List.setIfInBounds_toArray, List.set_cons_zero, List.set_cons_succ, i64_w, i32_w]
               rfl
              refine pure_ (i := 9) (N := some 9) (v := ?_) (a' := ?_) #[true, true, true, true, true, true, true, true, true, true] rfl rfl (any_of HT_.out (by kernel_rfl)) (fun _ _ _ h => h) (Or.inl ⟨by rfl, ?_⟩) ?_ ?_
              rotate_left
              ·intro w'
               go_simp
               with_reducible rfl
              rotate_left
              ·simp only [Act.put, List.setIfInBounds_toArray, List.set_cons_zero, List.set_cons_succ, i64_w, i32_w]
               rfl
              refine done_ (done_of HT_.out (by kernel_rfl)) ?_
              try go_wp2
              go_roundg k3
              case measure => have := HK1.out; have := HJ3.out; have := HK3.out; omega
              case rel => exact ⟨(y568), (wrap64 (x10_3 + 1)), (by first | rfl | (simp; done) | (simp [*]; done)), H', ⟨by have := HK1.out; have := HJ3.out; have := HK3.out; omega⟩, ⟨by (with_reducible repeat (first | apply Kd.S_alloc | apply Kd.S_drewN | apply Kd.S_drew)); exact Kd.S_mono HO_7.out (fun _ hk => hk.2)⟩, ⟨by (with_reducible repeat (first | apply Kd.R_alloc | apply Kd.R_drewN | apply Kd.R_drew)); exact Kd.R_mono HO570.out (fun _ hk => trivial)⟩, ⟨by repeat (first | (with_reducible first | exact HB.out | apply yA | apply yN | apply yD | refine below_set ?_ GE551.out) | exact HB.out)⟩⟩
             ·rw [if_neg c34] at H
              exact absurd H (by simp)
            ·rw [if_neg c32] at H
             exact absurd H (by simp)
          ·rw [if_neg c9] at H
           exact absurd H (by simp)
         ·rw [if_neg c8] at H
          exact absurd H (by simp)
        ·rw [if_neg c7] at H
         have c7b0 : decide (x10_3 < (l0.length : Int)) = false := decide_eq_false c7
         clear c7
         by_cases c41 : x7_1.length < 5864062014805
         ·rw [if_pos c41] at H
          have LMc41 := Aside0.mk c41
          clear c41
          obtain ⟨y571, hy571⟩ : ∃ y_ : List (List (S61)), y_ = (x7_1 ++ [x9_3]) := ⟨_, rfl⟩
          replace H : (tacticianref02_TameRows.l0 k3 l0 l1 a2 y571 (wrap64 (x8_1 + 1))) = some r := by first | (rw [hy571]; with_reducible exact H) | (have H2_ := (Option.bind_some _ _).symm.trans H; rw [hy571]; with_reducible exact H2_) | (have H2_ := (Option.bind_some _ _).symm.trans H; with_reducible exact H2_) | with_reducible exact H | (rw [hy571]; exact H) | exact H
          have Ny571 := Aside0.mk hy571
          clear hy571
          have H' := Aside0.mk H
          clear H
          obtain ⟨Ao43, co43, eo43⟩ := Kd.R_slice HO_9.out
          subst eo43
          go_wp2_with (first | ((with_reducible refine gate_builtin (b := .append) (xs := #[.tmp 69, .tmp 71]) rfl ?_); at_builtin; refine Kd.S_append (Kd.slice 61 k61) (w0 := w) w.heap.size rfl (.tmp 69) (.tmp 71) 22 40 (.slice none 0 0) 24 rfl Tryz.underlying22 info40 rfl (by decide) (by omega) u7 x7_1 x9_3 [.slice Ao43 x9_3.length co43] (fun _ => True) (fun k_ => some k_ = (.slice Ao43 x9_3.length co43 : Value).ownBlock) rfl rfl ?aP (fun k_ hk_ => ((Kd.R_mono (ok' := fun k_ => ((fun _ => True)) k_ ∧ some k_ ≠ (u7 : Value).ownBlock) (Kd.R_apart' (HO_9.out) (Kd.S_typed HO_7.out) (by decide)) (fun k_ hk => ⟨trivial, hk.2⟩))).1 k_ hk_.symm) ?aF ?aO ?aB ?aS ?aL ?_; (case aP => exact Kd.M_row (Kd.R_mono (Kd.R_tight rfl (Kd.R_mono (ok' := fun k_ => ((fun _ => True)) k_ ∧ some k_ ≠ (u7 : Value).ownBlock) (Kd.R_apart' (HO_9.out) (Kd.S_typed HO_7.out) (by decide)) (fun k_ hk => ⟨trivial, hk.2⟩))) (fun _ h_ => h_))); (case aB => exact (by repeat (first | (with_reducible first | exact HB.out | apply yA | apply yN | apply yD) | exact HB.out))); (case aF => exact (fun _ _ => trivial)); (case aO => exact (by (with_reducible repeat (first | apply Kd.S_alloc | apply Kd.S_drewN | apply Kd.S_drew)); exact Kd.S_mono HO_7.out (fun k_ hk => ⟨trivial, fun e_ => hk e_⟩))); (case aS => exact (below_size (by repeat (first | (with_reducible first | exact HB.out | apply yA | apply yN | apply yD) | exact HB.out)))); (case aL => have := LMc41.out; omega); intro v572 w42 ho hb hg hat; rw [← Ny571.out] at ho; have n0_ := Aside0.mk (hb); have n1_ := Aside0.mk (ho); clear HB; clear HO_7; clear HO_9; have HB := n0_; have HO573 := n1_; clear n0_ n1_; clear ho hb hg hat))
          go_roundg k3
          case measure => have := HK1.out; have := HJ3.out; have := HK3.out; omega
          case rel => exact ⟨(y571), (wrap64 (x8_1 + 1)), (by first | rfl | (simp; done) | (simp [*]; done)), H', ⟨by have := HK1.out; have := HJ3.out; have := HK3.out; omega⟩, ⟨by (with_reducible repeat (first | apply Kd.S_alloc | apply Kd.S_drewN | apply Kd.S_drew)); exact HO573.out⟩, ⟨by repeat (first | (with_reducible first | exact HB.out | apply yA | apply yN | apply yD) | exact HB.out)⟩⟩
         ·rw [if_neg c41] at H
          exact absurd H (by simp)
     ·replace c6 := Bool.eq_false_iff.mpr c6
      subst c6
      have H1 : (some x7_1) = some r := by rw [if_neg (show ¬ (false = true) by decide)] at H; exact H
      clear H
      have H := H1
      clear H1
      obtain rfl := Option.some.inj H
      go_wp2
      go_ret
      exact ⟨_, by first | rfl | (simp [errW_none, errW_some] <;> rfl) | (simp [*, errW_none, errW_some] <;> rfl), by (with_reducible repeat (first | apply Kd.S_alloc | apply Kd.S_drewN | apply Kd.S_drew)); exact HO_7.out, by repeat (first | (with_reducible first | exact HB.out | apply yA | apply yN | apply yD) | exact HB.out)⟩
end Go.Proofs.YtmhobbdedmjmnaaGreatDoor.Q
end
section
/- Each function reached is shown to return what the plain function beside it computes, wherever that is defined (written by a program of ours for this seat). -/
namespace Go.Proofs.YtmhobbdedmjmnaaGreatDoor.Q
open Go.RowKit Go.Proofs.YtmhobbdedmjmnaaGreatDoorW.PrintWords Go.Proofs.YtmhobbdedmjmnaaGreatDoorW.PrintLast Go.Proofs.YtmhobbdedmjmnaaGreatDoorW.PrintMore
attribute [local go_sem] max2_int min2_int max_two min_two max_three min_three max_four min_four   -- for this text's walks alone
set_option linter.unusedVariables false
set_option linter.unusedSimpArgs false
def tacticianlaw02_some.f (k : Nat) (l0 : List (List (S61))) (a1 : Int) : Option ((List (List (S61)))) := (tacticianref02_TameRows.f k (([(⟨1, true⟩ : S88), (⟨3, false⟩ : S88), (⟨2, true⟩ : S88)] : List (S88))) l0 a1).bind fun t577 => (some t577)
set_option maxHeartbeats 8000000 in
set_option maxRecDepth 100000 in
theorem tacticianlaw02_some.calls (k : Nat) (A0 : Option Addr) (c0 : Nat) (l0 : List (List (S61))) (a1 : Int) (r : List (List (S61))) (w : World) (hr0 : Kd.C (Kd.slice 61 k61) w A0 l0.length l0) (hc0 : l0.length ≤ c0) (h : tacticianlaw02_some.f k l0 a1 = some r) :
  Calls Tryz.prog 38 #[.slice A0 l0.length c0, .int .i64 a1] w fun e w' => ∃ v0_ : Value, e = .returned (v0_) ∧ Kd.S (Kd.slice 61 k61) 40 w' w.heap.size (fun _ => True) v0_ r ∧ Below w.heap.size w w' := by
 have hu88 := Tryz.underlying88
 have HR0 := Aside0.mk hr0
 have HC0 := Aside0.mk hc0
 clear hr0 hc0
 have HB := Aside0.mk (Below.refl w.heap.size w)
 have H : ((tacticianref02_TameRows.f k (([(⟨1, true⟩ : S88), (⟨3, false⟩ : S88), (⟨2, true⟩ : S88)] : List (S88))) l0 a1).bind fun t577 => (some t577)) = some r := h
 clear h
 obtain ⟨y574, hy574⟩ : ∃ y_ : List (S88), y_ = (([(⟨1, true⟩ : S88), (⟨3, false⟩ : S88), (⟨2, true⟩ : S88)] : List (S88))) := ⟨_, rfl⟩
 replace H : ((tacticianref02_TameRows.f k y574 l0 a1).bind fun t577 => (some t577)) = some r := by first | (rw [hy574]; with_reducible exact H) | (have H2_ := (Option.bind_some _ _).symm.trans H; rw [hy574]; with_reducible exact H2_) | (have H2_ := (Option.bind_some _ _).symm.trans H; with_reducible exact H2_) | with_reducible exact H | (rw [hy574]; exact H) | exact H
 have Ny574 := Aside0.mk hy574
 clear hy574
 replace H := Option.bind_eq_some_iff.mp H
 obtain ⟨t577, A30, H⟩ := H
 replace H : (some t577) = some r := H
 have A3 := Aside0.mk A30
 clear A30
 obtain rfl := Option.some.inj H
 go_enter Tryz.func38, Tryz.ntmps38
 go_wp2_with (first | ((with_reducible refine gate_dst (N := 8) rfl ?_); refine Kd.R_lit k88 _ 88 ?hg (N := 8) ?hd (xs := ([(⟨1, true⟩ : S88), (⟨3, false⟩ : S88), (⟨2, true⟩ : S88)] : List (S88))) (inner := [.int .i64 1, .bool true, .int .i64 3, .bool false, .int .i64 2, .bool true]) (ok := fun _ => True) (okp := fun _ => True) ?hr ?hp (fun _ hk => hk) trivial (Below.refl _ _) (Nat.le_refl _) (by simp) ?_; (case hd => rfl); (case hg => rfl); (case hr => first | (go_simp; done) | (go_simp; rfl)); (case hp => exact (Reps.c2 (show Kd.M k88 _ _ _ (⟨1, true⟩ : S88) [.int .i64 1, .bool true] from (k88_mkM _ _ _ (⟨1, true⟩ : S88) )) (Reps.c2 (show Kd.M k88 _ _ _ (⟨3, false⟩ : S88) [.int .i64 3, .bool false] from (k88_mkM _ _ _ (⟨3, false⟩ : S88) )) (Reps.c2 (show Kd.M k88 _ _ _ (⟨2, true⟩ : S88) [.int .i64 2, .bool true] from (k88_mkM _ _ _ (⟨2, true⟩ : S88) )) (Reps.none _ _))))); intro v575 w4 ho5 hb hg_ hnew_; clear hg_ hnew_; (first | rw [← Ny574.out] at ho5 | (simp only [Int.reduceToNat] at ho5; rw [← Ny574.out] at ho5)); have n0_ := Aside0.mk (Kd.R_lower ho5 (below_size (by repeat (first | (with_reducible first | exact HB.out | apply yA | apply yN | apply yD) | exact HB.out)))); have n1_ := Aside0.mk (below_step (by repeat (first | (with_reducible first | exact HB.out | apply yA | apply yN | apply yD) | exact HB.out)) hb); clear HB; have HO576 := n0_; have HB := n1_; clear n0_ n1_; clear hb ho5; obtain ⟨Ao6, co6, eo6⟩ := Kd.R_slice HO576.out; subst eo6) | ((with_reducible refine gate_callee (f := 73) rfl ?_); refine goesL_ (some 11) rfl rfl Tryz.func73 (by kernel_rfl) rfl #[.slice Ao6 y574.length co6, .slice A0 l0.length c0, .int .i64 a1] rfl (by (try simp only [List.map_toArray, List.map_cons, List.map_nil]); first | done | rfl | (simp only [List.length_drop, List.length_take]; rfl)) ?_; (with_reducible refine (tacticianref02_TameRows.calls k _ _ y574 _ _ l0 a1 t577 _ ?side1 ?side2 ?side3 ?side4 A3.out).mono ?_); (case side1 => repeat (first | exact (Kd.R_reads' HO576.out).2.2 | (with_reducible refine Kd.C_alloc ?_ _) | (with_reducible refine Kd.C_drewN ?_ _) | (with_reducible refine Kd.C_drew ?_))); (case side2 => exact (Kd.R_reads' HO576.out).2.1); (case side3 => repeat (first | exact (Kd.C_below HR0.out HB.out) | (with_reducible refine Kd.C_alloc ?_ _) | (with_reducible refine Kd.C_drewN ?_ _) | (with_reducible refine Kd.C_drew ?_))); (case side4 => exact HC0.out); rintro e w7 ⟨v578, rfl, ho0, hb⟩; refine ⟨_, rfl, ?_⟩; have n0_ := Aside0.mk (Kd.R_below (by (with_reducible repeat (first | apply Kd.R_alloc | apply Kd.R_drewN | apply Kd.R_drew)); exact HO576.out) hb); have n1_ := Aside0.mk (Kd.S_lower ho0 (below_size (by repeat (first | (with_reducible first | exact HB.out | apply yA | apply yN | apply yD) | exact HB.out)))); have n2_ := Aside0.mk (below_step (by repeat (first | (with_reducible first | exact HB.out | apply yA | apply yN | apply yD) | exact HB.out)) hb); clear HO576; clear HB; have HO576 := n0_; have HO579 := n1_; have HB := n2_; clear n0_ n1_ n2_; (try clear hb); (try clear hb2); (try clear hk); (try clear hi); (try clear ho0)))
 go_ret
 exact ⟨_, by first | rfl | (simp [errW_none, errW_some] <;> rfl) | (simp [*, errW_none, errW_some] <;> rfl), by (with_reducible repeat (first | apply Kd.S_alloc | apply Kd.S_drewN | apply Kd.S_drew)); exact HO579.out, by repeat (first | (with_reducible first | exact HB.out | apply yA | apply yN | apply yD) | exact HB.out)⟩
end Go.Proofs.YtmhobbdedmjmnaaGreatDoor.Q
end
section
/- What the word some of the laws on rows answers: right rows of three columns; no program in sight. -/
namespace Go.Proofs.YtmhobbdedmjmnaaGreatDoor
open Go.RowKit Go.Proofs.YtmhobbdedmjmnaaGreatDoor.Q Go.Proofs.YtmhobbdedmjmnaaGreatDoorW.PrintWords Go.Proofs.YtmhobbdedmjmnaaGreatDoorW.PrintLast Go.Proofs.YtmhobbdedmjmnaaGreatDoorW.PrintMore
set_option linter.unusedSimpArgs false
set_option linter.unusedVariables false
/-- what is a value, in few bytes -/
def SmallV (a b : Int) (c : ByteArray) : Prop := okV a b c = true ∧ c.size ≤ 3
theorem inI64_wrap (n : Int) : inI64 (wrap64 n) = true := by
  refine inI64_mk ?_ ?_ <;> (unfold wrap64; omega)
theorem ab_one (m : Nat) (h : m < 3) : ((⟨#[97, 98, 39]⟩ : ByteArray).extract m (m + 1)).size = 1 ∧ prL ((⟨#[97, 98, 39]⟩ : ByteArray).extract m (m + 1)).data.toList = true := by
  match m, h with
  | 0, _ => decide
  | 1, _ => decide
  | 2, _ => decide
theorem tameAs_loop (t : ByteArray) (p q : Int) : ∀ (d i k : Nat) (acc : ByteArray), i + d = min t.size 3 → d < k → acc.size = i → prL acc.data.toList = true →
    ∃ c, tacticianref01_TameAs.l0 k acc (i : Int) p q t = some (3, 0, c) ∧ c.size ≤ 3 ∧ prL c.data.toList = true := by
  intro d
  induction d with
  | zero =>
    intro i k acc hi hk hs hp
    obtain ⟨k, rfl⟩ : ∃ m, k = m + 1 := ⟨k - 1, by omega⟩
    refine ⟨acc, ?_, by omega, hp⟩
    rw [tacticianref01_TameAs.l0]
    by_cases h : i < t.size
    · rw [if_pos (by omega), if_neg (by omega)]; rfl
    · rw [if_neg (by omega)]; rfl
  | succ d ih =>
    intro i k acc hi hk hs hp
    obtain ⟨k, rfl⟩ : ∃ m, k = m + 1 := ⟨k - 1, by omega⟩
    have hlt : i < t.size := by omega
    have hb := bt_get t i hlt
    generalize t.data.toList[i]'(by rw [Array.length_toList]; exact hlt) = c at hb
    have hm : Int.tmod (c.toNat : Int) 3 = ((c.toNat % 3 : Nat) : Int) := rfl
    have hm3 : c.toNat % 3 < 3 := Nat.mod_lt _ (by omega)
    obtain ⟨h1, h2⟩ := ab_one (c.toNat % 3) hm3
    have he : ((((c.toNat % 3 : Nat) : Int) + 1) % 256) = ((c.toNat % 3 + 1 : Nat) : Int) := by omega
    rw [tacticianref01_TameAs.l0, if_pos (by omega), if_pos (by omega), if_pos (by omega), hb, hm, he, if_pos (by omega), if_pos (by omega), if_pos (by omega), Int.toNat_natCast, Int.toNat_natCast, if_pos (by rw [h1]; omega), wrap_small (n := (i : Int) + 1) (by omega) (by omega), show ((i : Int) + 1) = ((i + 1 : Nat) : Int) by omega]
    refine ih (i + 1) k _ (by omega) (by omega) (by rw [ByteArray.size_append, h1, hs]) ?_
    rw [append_data]
    unfold prL at hp h2 ⊢
    rw [List.all_append, hp, h2]
    rfl
theorem smallV_text {c : ByteArray} (h : c.size ≤ 3) (hp : prL c.data.toList = true) : SmallV 3 0 c := by
  refine ⟨?_, h⟩
  have h2 : c.size ≤ 200 := by omega
  unfold okV isB
  simp [h2, hp]
  decide
theorem tameAs_j0 (x : Bool) (a b : Int) (c : ByteArray) (kd : Int) (nl : Bool) (hb : inI64 b = true) (k : Nat) (hk : 5 ≤ k) : ∃ p, tacticianref01_TameAs.j0 k x a b c kd nl = some p ∧ SmallV p.1 p.2.1 p.2.2 := by
  obtain ⟨k, rfl⟩ : ∃ m, k = m + 1 := ⟨k - 1, by omega⟩
  rw [tacticianref01_TameAs.j0]
  unfold tacticianref01_Null.f tacticianref01_Bool.f tacticianref01_Int.f
  cases x with
  | true => exact ⟨_, rfl, by decide, by decide⟩
  | false =>
    rw [if_neg (by decide)]
    by_cases h2 : kd = 2
    · rw [if_pos h2]
      cases (Int.tmod b 2 != 0) with
      | true => exact ⟨_, rfl, by decide, by decide⟩
      | false => exact ⟨_, rfl, by decide, by decide⟩
    · rw [if_neg h2]
      by_cases h3 : kd = 3
      · rw [if_pos h3]
        obtain ⟨d, e, hs, hp⟩ := tameAs_loop c a b (min c.size 3) 0 k ⟨#[]⟩ (by omega) (by omega) rfl rfl
        exact ⟨_, e, smallV_text hs hp⟩
      · rw [if_neg h3]
        have hi : ∀ n, inI64 n = true → SmallV 1 n ⟨#[]⟩ := fun n hn => ⟨by unfold okV; rw [hn]; rfl, by decide⟩
        split
        · exact ⟨_, rfl, hi _ hb⟩
        · exact ⟨_, rfl, hi _ (inI64_wrap _)⟩
theorem tameAs_ok (a b : Int) (c : ByteArray) (kd : Int) (nl : Bool) (hb : inI64 b = true) (k : Nat) (hk : 5 ≤ k) : ∃ p, tacticianref01_TameAs.f k a b c kd nl = some p ∧ SmallV p.1 p.2.1 p.2.2 := by
  unfold tacticianref01_TameAs.f
  split
  · split
    · exact tameAs_j0 _ a b c kd nl hb k hk
    · exact tameAs_j0 _ a b c kd nl hb k hk
  · exact tameAs_j0 _ a b c kd nl hb k hk
/-- a right row, of few and small values -/
def TameR (r : List V) : Prop := r.length = 3 ∧ ∀ v ∈ r, SmallV v.f0 v.f1 v.f2
theorem tame_l1 (cols : List S88) (hc : cols.length = 3) (raw : List (List V)) (n : Int) (hr : argRows raw) (i : Nat) (hi : i < raw.length) : ∀ (d j k : Nat) (out : List (List V)) (row : List V), j + d = 3 → row.length = j → (∀ v ∈ row, SmallV v.f0 v.f1 v.f2) → out.length ≤ 1000 → 5 ≤ k →
    ∃ row', TameR row' ∧ tacticianref02_TameRows.l1 (k + d + 1) cols raw n out (i : Int) row (j : Int) = tacticianref02_TameRows.l0 k cols raw n (out ++ [row']) (wrap64 ((i : Int) + 1)) := by
  intro d
  induction d with
  | zero =>
    intro j k out row hj hl hv ho hk
    refine ⟨row, ⟨by omega, hv⟩, ?_⟩
    rw [tacticianref02_TameRows.l1, if_neg (by omega), if_pos (by omega)]
  | succ d ih =>
    intro j k out row hj hl hv ho hk
    rw [show k + (d + 1) + 1 = (k + d + 1) + 1 by omega, tacticianref02_TameRows.l1, if_pos (by omega), if_pos (by omega), if_pos (by omega), rdL_at raw i hi]
    have hw : wrap64 ((j : Int) + 1) = ((j + 1 : Nat) : Int) := by rw [wrap_small (n := (j : Int) + 1) (by omega) (by omega)]; omega
    have step : ∀ p : Int × Int × ByteArray, SmallV p.1 p.2.1 p.2.2 → ∃ row', TameR row' ∧ (if row.length < 4398046511104 then tacticianref02_TameRows.l1 (k + d + 1) cols raw n out (i : Int) (row ++ [(⟨p.1, p.2.1, p.2.2⟩ : V)]) (wrap64 ((j : Int) + 1)) else none) = tacticianref02_TameRows.l0 k cols raw n (out ++ [row']) (wrap64 ((i : Int) + 1)) := by
      intro p hp
      rw [if_pos (by omega), hw]
      refine ih (j + 1) k out _ (by omega) (by rw [List.length_append, List.length_singleton, hl]) (fun v hm => ?_) ho hk
      rcases List.mem_append.1 hm with h | h
      · exact hv v h
      · rw [List.mem_singleton.1 h]; exact hp
    by_cases h0 : 0 < raw[i].length
    · have t1 : 0 ≤ Int.tmod (j : Int) (raw[i].length : Int) := Int.tmod_nonneg _ (by omega)
      have t2 : Int.tmod (j : Int) (raw[i].length : Int) < (raw[i].length : Int) := Int.tmod_lt_of_pos _ (by omega)
      rw [if_pos (by omega), if_neg (by omega), if_pos t1, if_pos t2, if_pos (by omega)]
      obtain ⟨p, e, hp⟩ := tameAs_ok (rd_T61 raw[i] (Int.tmod (j : Int) (raw[i].length : Int))).f0 (wrap64 (((rd_T61 raw[i] (Int.tmod (j : Int) (raw[i].length : Int))).f1) + (wrap64 (Int.tdiv (j : Int) (raw[i].length : Int))))) (rd_T61 raw[i] (Int.tmod (j : Int) (raw[i].length : Int))).f2 (rd_T88 cols (j : Int)).f0 (rd_T88 cols (j : Int)).f1 (inI64_wrap _) (k + d + 1) (by omega)
      rw [e, Option.bind_some]
      exact step p hp
    · rw [if_neg (by omega), if_pos (by omega)]
      obtain ⟨p, e, hp⟩ := tameAs_ok 0 0 ⟨#[]⟩ (rd_T88 cols (j : Int)).f0 (rd_T88 cols (j : Int)).f1 (by decide) (k + d + 1) (by omega)
      rw [e, Option.bind_some]
      exact step p hp
theorem tame_l0 (cols : List S88) (hc : cols.length = 3) (raw : List (List V)) (n : Nat) (hn : n ≤ 1000) (hr : argRows raw) : ∀ (d i k : Nat) (out : List (List V)), i + d = min raw.length n → out.length = i → (∀ r ∈ out, TameR r) → 10 * d + 10 ≤ k →
    ∃ L, tacticianref02_TameRows.l0 k cols raw (n : Int) out (i : Int) = some L ∧ L.length ≤ n ∧ ∀ r ∈ L, TameR r := by
  intro d
  induction d with
  | zero =>
    intro i k out hi hl ho hk
    obtain ⟨k, rfl⟩ : ∃ m, k = m + 2 := ⟨k - 2, by omega⟩
    refine ⟨out, ?_, by omega, ho⟩
    rw [tacticianref02_TameRows.l0]
    by_cases h : i < raw.length
    · rw [if_pos (by omega), decide_eq_false (by omega), tacticianref02_TameRows.j1, if_neg (by decide)]
    · rw [if_neg (by omega), tacticianref02_TameRows.j1, if_neg (by decide)]
  | succ d ih =>
    intro i k out hi hl ho hk
    obtain ⟨k, rfl⟩ : ∃ m, k = (m + 3 + 1) + 2 := ⟨k - 6, by omega⟩
    have h1 : i < raw.length := by omega
    obtain ⟨row, hrow, e⟩ := tame_l1 cols hc raw (n : Int) hr i h1 3 0 k out [] (by omega) rfl (fun v h => by cases h) (by omega) (by omega)
    rw [tacticianref02_TameRows.l0, if_pos (by omega), decide_eq_true (by omega), tacticianref02_TameRows.j1, if_pos rfl]
    obtain ⟨L, eL, h2, h3⟩ := ih (i + 1) k (out ++ [row]) (by omega) (by rw [List.length_append, List.length_singleton, hl]) (fun r hm => by
      rcases List.mem_append.1 hm with h | h
      · exact ho r h
      · rw [List.mem_singleton.1 h]; exact hrow) (by omega)
    refine ⟨L, ?_, h2, h3⟩
    refine e.trans ?_
    have hb := hr.2.1
    unfold maxLen at hb
    rw [wrap_small (n := (i : Int) + 1) (by omega) (by omega), show ((i : Int) + 1) = ((i + 1 : Nat) : Int) by omega]
    exact eL
theorem some_at (raw : List (List V)) (hr : argRows raw) (n : Nat) (hn : n ≤ 1000) (k : Nat) (hk : 10 * n + 10 ≤ k) : ∃ L, tacticianlaw02_some.f k raw (n : Int) = some L ∧ L.length ≤ n ∧ ∀ r ∈ L, TameR r := by
  obtain ⟨L, e, h1, h2⟩ := tame_l0 [(⟨1, true⟩ : S88), (⟨3, false⟩ : S88), (⟨2, true⟩ : S88)] rfl raw n hn hr (min raw.length n) 0 k [] (by omega) rfl (fun r h => by cases h) (by omega)
  refine ⟨L, ?_, h1, h2⟩
  unfold tacticianlaw02_some.f tacticianref02_TameRows.f
  rw [show (0 : Int) = ((0 : Nat) : Int) from rfl, e]
  rfl
/-- rows that nothing is wrong with -/
def GoodR (l : List (List V)) : Prop := l.length ≤ 100 ∧ ∀ r ∈ l, TameR r
theorem GoodR.ok {l : List (List V)} (h : GoodR l) : RowsOk 100 l := ⟨h.1, fun r hr => ⟨by have := (h.2 r hr).1; omega, fun v hv => by
  have := (h.2 r hr).2 v hv
  refine ⟨by have := this.2; omega, ?_⟩
  have h2 := this.1
  unfold okV at h2
  rw [Bool.and_eq_true] at h2
  exact h2.2⟩⟩
theorem GoodR.wrong {l : List (List V)} (h : GoodR l) : wrongR l = false := by
  unfold wrongR
  rw [List.any_eq_false]
  intro r hr
  rw [Bool.not_eq_true, List.any_eq_false]
  intro v hv
  have h2 := ((h.2 r hr).2 v hv).1
  unfold okV at h2
  rw [Bool.and_eq_true] at h2
  show ¬ (!isV v) = true
  unfold isV
  rw [h2.1]
  decide
theorem GoodR.large {l : List (List V)} (h : GoodR l) : largeR l = false := by
  unfold largeR
  rw [decide_eq_false (by have := h.1; omega), Bool.false_or, List.any_eq_false]
  intro r hr
  rw [decide_eq_true_eq]
  have := (h.2 r hr).1
  omega
theorem GoodR.small {l : List (List V)} (h : GoodR l) : smallE [l] = 0 := by
  unfold smallE
  simp only [List.any_cons, List.any_nil, Bool.or_false]
  rw [h.large, h.wrong]
  rfl
theorem GoodR.small2 {a b : List (List V)} (ha : GoodR a) (hb : GoodR b) : smallE [a, b] = 0 := by
  unfold smallE
  simp only [List.any_cons, List.any_nil, Bool.or_false]
  rw [ha.large, ha.wrong, hb.large, hb.wrong]
  rfl
theorem GoodR.sub {l r : List (List V)} (h : GoodR l) (hs : ∀ x ∈ r, x ∈ l) (hl : r.length ≤ 100) : GoodR r := ⟨hl, fun x hx => h.2 x (hs x hx)⟩
end Go.Proofs.YtmhobbdedmjmnaaGreatDoor
end
