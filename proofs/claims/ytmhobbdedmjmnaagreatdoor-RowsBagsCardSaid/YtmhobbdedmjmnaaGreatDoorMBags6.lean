/- Lemmas for the claim: contracts of functions and facts about what they compute, part 7 (texts put together, and cut down to what is used, by a program of ours). -/
import Derived.Test.YtmhobbdedmjmnaaGreatDoorMBags5
section
/- Each function reached is shown to return what the plain function beside it computes, wherever that is defined (written by a program of ours for this seat). -/
namespace Go.Proofs.YtmhobbdedmjmnaaGreatDoor.Q
open Go.RowKit Go.Proofs.YtmhobbdedmjmnaaGreatDoorW.PrintWords Go.Proofs.YtmhobbdedmjmnaaGreatDoorW.PrintLast Go.Proofs.YtmhobbdedmjmnaaGreatDoorW.PrintMore
attribute [local go_sem] max2_int min2_int max_two min_two max_three min_three max_four min_four   -- for this text's walks alone
set_option linter.unusedVariables false
set_option linter.unusedSimpArgs false
def tacticianref02_Distinct.l0 : Nat → List (List (S61)) → List (List (S61)) → Int → Option ((List (List (S61))))
  | 0, _, _, _ => none
  | k + 1, x3, x4, x5 => if x5 < (x3.length : Int) then (if x5 = 0 then (if 0 ≤ x5 then (if x4.length < 5864062014805 then (tacticianref02_Distinct.l0 k x3 (x4 ++ [rd_L3 x3 x5]) (wrap64 (x5 + 1))) else (none)) else (none)) else (if 0 ≤ x5 then (if 0 ≤ (wrap64 (x5 - 1)) then (if (wrap64 (x5 - 1)) < (x3.length : Int) then ((tacticianref02_Compare.f k (rd_L3 x3 x5) (rd_L3 x3 (wrap64 (x5 - 1)))).bind fun t233 => (if t233 = 0 then (tacticianref02_Distinct.l0 k x3 x4 (wrap64 (x5 + 1))) else (if x4.length < 5864062014805 then (tacticianref02_Distinct.l0 k x3 (x4 ++ [rd_L3 x3 x5]) (wrap64 (x5 + 1))) else (none)))) else (none)) else (none)) else (none))) else (some x4)
def tacticianref02_Distinct.f (k : Nat) (l0 : List (List (S61))) : Option ((List (List (S61)))) := (tacticianref02_Canonical.f k l0).bind fun t224 => (tacticianref02_Distinct.l0 k t224 ([] : List (List (S61))) 0)
def tacticianref02_Distinct.T6 : Bool × List (List Nat × List Nat) := (true, [([], []), ([0], [0]), ([1], [1]), ([2], [2]), ([2], [2]), ([3, 4, 2], [2, 3, 4]), ([5, 2], [2, 5]), ([2], [2]), ([2], [2]), ([8, 2], [2, 8]), ([7, 9, 2], [2, 7, 9]), ([10, 2], [2, 10]), ([6, 11, 2, 2], [2, 6, 11]), ([12, 2], [2, 12]), ([2, 13], [2, 13])])
def tacticianref02_Distinct.B6 : List Nat := [0, 1, 3, 7, 7, 31, 63, 7, 7, 263, 903, 1927, 4095, 8191, 16383]
theorem tacticianref02_Distinct.tab6 : rtab .any (opsOf Tryz.f46 6) = tacticianref02_Distinct.T6 := by kernel_rfl
theorem tacticianref02_Distinct.bits6 : waitsOk tacticianref02_Distinct.T6.2 tacticianref02_Distinct.B6 = true := by kernel_rfl
set_option maxHeartbeats 8000000 in
set_option maxRecDepth 100000 in
theorem tacticianref02_Distinct.calls (k : Nat) (A0 : Option Addr) (c0 : Nat) (l0 : List (List (S61))) (r : List (List (S61))) (w : World) (hr0 : Kd.C (Kd.slice 61 k61) w A0 l0.length l0) (hc0 : l0.length ≤ c0) (h : tacticianref02_Distinct.f k l0 = some r) :
  Calls Tryz.prog 46 #[.slice A0 l0.length c0] w fun e w' => ∃ v0_ : Value, e = .returned (v0_) ∧ Kd.N (Kd.slice 61 k61) 40 w' w.heap.size (fun k_ => (w.heap.size ≤ k_)) v0_ r ∧ Below w.heap.size w w' := by
 have HR0 := Aside0.mk hr0
 have HC0 := Aside0.mk hc0
 clear hr0 hc0
 have HB := Aside0.mk (Below.refl w.heap.size w)
 have H : ((tacticianref02_Canonical.f k l0).bind fun t224 => (tacticianref02_Distinct.l0 k t224 ([] : List (List (S61))) 0)) = some r := h
 clear h
 replace H := Option.bind_eq_some_iff.mp H
 obtain ⟨t224, A20, H⟩ := H
 replace H : (tacticianref02_Distinct.l0 k t224 ([] : List (List (S61))) 0) = some r := H
 have A2 := Aside0.mk A20
 clear A20
 have H' := Aside0.mk H
 clear H
 go_enter Tryz.func46, Tryz.ntmps46
 go_wp2_with (first | ((with_reducible refine gate_callee (f := 30) rfl ?_); refine goesL_ (some 7) rfl rfl Tryz.func30 (by kernel_rfl) rfl #[.slice A0 l0.length c0] rfl (by (try simp only [List.map_toArray, List.map_cons, List.map_nil]); first | done | rfl | (simp only [List.length_drop, List.length_take]; rfl)) ?_; (with_reducible refine (tacticianref02_Canonical.calls k _ _ l0 t224 _ ?side1 ?side2 A2.out).mono ?_); (case side1 => repeat (first | exact HR0.out | (with_reducible refine Kd.C_alloc ?_ _) | (with_reducible refine Kd.C_drewN ?_ _) | (with_reducible refine Kd.C_drew ?_))); (case side2 => exact HC0.out); rintro e w3 ⟨v225, rfl, ho0, hb⟩; refine ⟨_, rfl, ?_⟩; have n0_ := Aside0.mk (Kd.N_lower (Kd.N_mono (ok' := fun k_ => (w.heap.size ≤ k_)) ho0 (fun k_ hk_ => (Nat.le_trans (below_size (by repeat (first | (with_reducible first | exact HB.out | apply yA | apply yN | apply yD) | exact HB.out))) hk_))) (below_size (by repeat (first | (with_reducible first | exact HB.out | apply yA | apply yN | apply yD) | exact HB.out)))); have n1_ := Aside0.mk (below_step (by repeat (first | (with_reducible first | exact HB.out | apply yA | apply yN | apply yD) | exact HB.out)) hb); clear HB; have HO226 := n0_; have HB := n1_; clear n0_ n1_; (try clear hb); (try clear hb2); (try clear hk); (try clear hi); (try clear ho0)))
 go_loopg [4, 5] k (fun kq v4 v5 w' => ∃ (x4_1 : List (List (S61))) (x5_1 : Int), v5 = .int .i64 x5_1 ∧ Aside0 (tacticianref02_Distinct.l0 kq t224 x4_1 x5_1 = some r) ∧ Aside0 (kq ≤ k) ∧ Aside0 (Kd.N (Kd.slice 61 k61) 40 w' w.heap.size (fun k_ => (w.heap.size ≤ k_) ∧ some k_ ≠ (v4 : Value).ownBlock) v225 t224) ∧ Aside0 (Kd.N (Kd.slice 61 k61) 40 w' w.heap.size (fun k_ => (w.heap.size ≤ k_) ∧ some k_ ≠ (v225 : Value).ownBlock) v4 x4_1) ∧ Aside0 (Below w.heap.size w w'))
 case atStart => exact ⟨(([] : List (List (S61)))), (0), (by first | rfl | (simp; done) | (simp [*]; done)), H', ⟨Nat.le_refl _⟩, ⟨by (with_reducible repeat (first | apply Kd.N_alloc | apply Kd.N_drewN | apply Kd.N_drew)); exact Kd.N_mono HO226.out (fun _ hk => ⟨hk, (by simp [Value.ownBlock])⟩)⟩, ⟨by first | exact Kd.S_nil _ _ _ _ _ | exact Kd.N_nil _ _ _ _ _ | exact Kd.V_nil _ _ _ _ _ | exact Kd.Q_nil _ _ _ _ _ | exact Kd.R_nil _ _ _ _ _⟩, ⟨by repeat (first | (with_reducible first | exact HB.out | apply yA | apply yN | apply yD) | exact HB.out)⟩⟩
 case round =>
  clear H'
  try clear p2
  try clear c3
  obtain ⟨x4_1, x5_1, rfl, HA, HK1, HO_3, HO_4, HB⟩ := hrel
  cases gk with
  | zero => exact absurd HA.out (by simp [tacticianref02_Distinct.l0])
  | succ k1 =>
   have H := HA.out
   clear HA
   simp only [tacticianref02_Distinct.l0] at H
   by_cases c4 : x5_1 < (t224.length : Int)
   ·rw [if_pos c4] at H
    have c4b0 : decide (x5_1 < (t224.length : Int)) = true := decide_eq_true c4
    clear c4
    by_cases c5 : x5_1 = 0
    ·rw [if_pos c5] at H
     have c5b0 : (x5_1 == 0) = true := beq_iff_eq.mpr c5
     have c5b1 : (x5_1 != 0) = false := bne_eq_false_iff_eq.mpr c5
     clear c5
     by_cases c6 : 0 ≤ x5_1
     ·rw [if_pos c6] at H
      have c6b0 : decide (0 ≤ x5_1) = true := decide_eq_true c6
      clear c6
      by_cases c7 : x4_1.length < 5864062014805
      ·rw [if_pos c7] at H
       have LMc7 := Aside0.mk c7
       clear c7
       obtain ⟨y228, hy228⟩ : ∃ y_ : List (List (S61)), y_ = (x4_1 ++ [rd_L3 t224 x5_1]) := ⟨_, rfl⟩
       replace H : (tacticianref02_Distinct.l0 k1 t224 y228 (wrap64 (x5_1 + 1))) = some r := by first | (rw [hy228]; with_reducible exact H) | (have H2_ := (Option.bind_some _ _).symm.trans H; rw [hy228]; with_reducible exact H2_) | (have H2_ := (Option.bind_some _ _).symm.trans H; with_reducible exact H2_) | with_reducible exact H | (rw [hy228]; exact H) | exact H
       have Ny228 := Aside0.mk hy228
       clear hy228
       have H' := Aside0.mk H
       clear H
       obtain ⟨Ao8, co8, eo8⟩ := Kd.N_slice HO_3.out
       subst eo8
       try go_wp2
       have n0_ := Aside0.mk (Kd.N_drew HO_3.out)
       have n1_ := Aside0.mk (Kd.N_drew HO_4.out)
       have n2_ := Aside0.mk (below_drew1 HB.out)
       clear HO_3
       clear HO_4
       clear HB
       have HO_3 := n0_
       have HO_4 := n1_
       have HB := n2_
       clear n0_ n1_ n2_
       refine start_ (n := 15) (S := fun w' => True) (ds := []) #[false, false, false, false, false, false, false, false, false, false, false, false, false, false, false] (by kernel_rfl) rfl rfl trivial (fun hHeld => ?_); refine with_tabW tacticianref02_Distinct.tab6 tacticianref02_Distinct.bits6 (fun HT_ HW_ => ?_)
       generalize wr.drew = w9 at HO_3 HO_4 HB hHeld ⊢
       refine pure_ (i := 0) (N := some 14) (v := ?_) (a' := ?_) #[true, false, false, false, false, false, false, false, false, false, false, false, false, false, false] rfl rfl (any_of HT_.out (by kernel_rfl)) (fun _ _ _ h => h) (Or.inl ⟨by rfl, ?_⟩) ?_ ?_
       rotate_left
       ·intro w'
        go_simp
        with_reducible rfl
       rotate_left
       ·simp only [Act.put, List.setIfInBounds_toArray, List.set_cons_zero, List.set_cons_succ, i64_w, i32_w]
        rfl
       refine pure_ (i := 1) (N := some 15) (v := ?_) (a' := ?_) #[true, true, false, false, false, false, false, false, false, false, false, false, false, false, false] rfl rfl (any_of HT_.out (by kernel_rfl)) (fun _ _ _ h => h) (Or.inl ⟨by rfl, ?_⟩) ?_ ?_
       rotate_left
       ·intro w'
        go_simp
        with_reducible rfl
       rotate_left
       ·simp only [Act.put, List.setIfInBounds_toArray, List.set_cons_zero, List.set_cons_succ, i64_w, i32_w]
        rfl
       refine pure_ (i := 2) (N := some 16) (v := ?_) (a' := ?_) #[true, true, true, false, false, false, false, false, false, false, false, false, false, false, false] rfl rfl (any_of HT_.out (by kernel_rfl)) (fun _ _ _ h => h) (Or.inl ⟨by rfl, ?_⟩) ?_ ?_
       rotate_left
       ·intro w'
        go_simp
        with_reducible rfl
       rotate_left
       ·simp only [Act.put, List.setIfInBounds_toArray, List.set_cons_zero, List.set_cons_succ, i64_w, i32_w]
        rfl
       refine pure_ (i := 3) (N := some 17) (v := undef) (a' := ?_) #[true, true, true, true, false, false, false, false, false, false, false, false, false, false, false] rfl rfl (any_of HT_.out (by kernel_rfl)) (fun _ _ _ h => h) (Or.inr ⟨by rfl, rfl⟩) ?_ ?_
       rotate_left
       ·simp only [Act.put, List.setIfInBounds_toArray, List.set_cons_zero, List.set_cons_succ, i64_w, i32_w]
        rfl
       refine pure_ (i := 4) (N := some 18) (v := undef) (a' := ?_) #[true, true, true, true, true, false, false, false, false, false, false, false, false, false, false] rfl rfl (any_of HT_.out (by kernel_rfl)) (fun _ _ _ h => h) (Or.inr ⟨by rfl, rfl⟩) ?_ ?_
       rotate_left
       ·simp only [Act.put, List.setIfInBounds_toArray, List.set_cons_zero, List.set_cons_succ, i64_w, i32_w]
        rfl
       refine pure_ (i := 5) (N := some 19) (v := undef) (a' := ?_) #[true, true, true, true, true, true, false, false, false, false, false, false, false, false, false] rfl rfl (any_of HT_.out (by kernel_rfl)) (fun _ _ _ h => h) (Or.inr ⟨by rfl, rfl⟩) ?_ ?_
       rotate_left
       ·simp only [Act.put, List.setIfInBounds_toArray, List.set_cons_zero, List.set_cons_succ, i64_w, i32_w]
        rfl
       refine pure_ (i := 6) (N := some 20) (v := undef) (a' := ?_) #[true, true, true, true, true, true, true, false, false, false, false, false, false, false, false] rfl rfl (any_of HT_.out (by kernel_rfl)) (fun _ _ _ h => h) (Or.inr ⟨by rfl, rfl⟩) ?_ ?_
       rotate_left
       ·simp only [Act.put, List.setIfInBounds_toArray, List.set_cons_zero, List.set_cons_succ, i64_w, i32_w]
        rfl
       refine pure_ (i := 7) (N := some 21) (v := undef) (a' := ?_) #[true, true, true, true, true, true, true, true, false, false, false, false, false, false, false] rfl rfl (any_of HT_.out (by kernel_rfl)) (fun _ _ _ h => h) (Or.inr ⟨by rfl, rfl⟩) ?_ ?_
       rotate_left
       ·simp only [Act.put, List.setIfInBounds_toArray, List.set_cons_zero, List.set_cons_succ, i64_w, i32_w]
        rfl
       refine pure_ (i := 8) (N := some 22) (v := undef) (a' := ?_) #[true, true, true, true, true, true, true, true, true, false, false, false, false, false, false] rfl rfl (any_of HT_.out (by kernel_rfl)) (fun _ _ _ h => h) (Or.inr ⟨by rfl, rfl⟩) ?_ ?_
       rotate_left
       ·simp only [Act.put, List.setIfInBounds_toArray, List.set_cons_zero, List.set_cons_succ, i64_w, i32_w]
        rfl
       refine pure_ (i := 9) (N := some 23) (v := undef) (a' := ?_) #[true, true, true, true, true, true, true, true, true, true, false, false, false, false, false] rfl rfl (any_of HT_.out (by kernel_rfl)) (fun _ _ _ h => h) (Or.inr ⟨by rfl, rfl⟩) ?_ ?_
       rotate_left
       ·simp only [Act.put, List.setIfInBounds_toArray, List.set_cons_zero, List.set_cons_succ, i64_w, i32_w]
        rfl
       refine pure_ (i := 10) (N := some 24) (v := undef) (a' := ?_) #[true, true, true, true, true, true, true, true, true, true, true, false, false, false, false] rfl rfl (any_of HT_.out (by kernel_rfl)) (fun _ _ _ h => h) (Or.inr ⟨by rfl, rfl⟩) ?_ ?_
       rotate_left
       ·simp only [Act.put, List.setIfInBounds_toArray, List.set_cons_zero, List.set_cons_succ, i64_w, i32_w]
        rfl
       refine pure_ (i := 11) (N := some 25) (v := undef) (a' := ?_) #[true, true, true, true, true, true, true, true, true, true, true, true, false, false, false] rfl rfl (any_of HT_.out (by kernel_rfl)) (fun _ _ _ h => h) (Or.inr ⟨by rfl, rfl⟩) ?_ ?_
       rotate_left
       ·simp only [Act.put, List.setIfInBounds_toArray, List.set_cons_zero, List.set_cons_succ, i64_w, i32_w]
        rfl
       refine pure_ (i := 12) (N := some 26) (v := undef) (a' := ?_) #[true, true, true, true, true, true, true, true, true, true, true, true, true, false, false] rfl rfl (any_of HT_.out (by kernel_rfl)) (fun _ _ _ h => h) (Or.inr ⟨by rfl, rfl⟩) ?_ ?_
       rotate_left
       ·simp only [Act.put, List.setIfInBounds_toArray, List.set_cons_zero, List.set_cons_succ, i64_w, i32_w]
        rfl
       refine pure_ (i := 13) (N := some 27) (v := undef) (a' := ?_) #[true, true, true, true, true, true, true, true, true, true, true, true, true, true, false] rfl rfl (any_of HT_.out (by kernel_rfl)) (fun _ _ _ h => h) (Or.inr ⟨by rfl, rfl⟩) ?_ ?_
       rotate_left
       ·simp only [Act.put, List.setIfInBounds_toArray, List.set_cons_zero, List.set_cons_succ, i64_w, i32_w]
        rfl
       refine pure_ (i := 14) (N := some 28) (v := ?_) (a' := ?_) #[true, true, true, true, true, true, true, true, true, true, true, true, true, true, true] rfl rfl (any_of HT_.out (by kernel_rfl)) (fun _ _ _ h => h) (Or.inl ⟨by rfl, ?_⟩) ?_ ?_
       rotate_left
       ·intro w'
        go_simp
        with_reducible rfl
       rotate_left
       ·simp only [Act.put, List.setIfInBounds_toArray, List.set_cons_zero, List.set_cons_succ, i64_w, i32_w]
        rfl
       refine done_ (done_of HT_.out (by kernel_rfl)) ?_
       have p227 : 0 ≤ (x5_1 : Int) := of_decide_eq_true (by first | (with_reducible assumption) | assumption)
       have q227 : x5_1 < (t224.length : Int) := of_decide_eq_true (by first | (with_reducible assumption) | assumption)
       obtain ⟨ad227, A227_0, c227_0, e227, hx227_0, hl227_0, hi227_0⟩ := at_L3 (Kd.N_reads' HO_3.out).2.2 x5_1 p227 q227
       cases e227
       obtain ⟨ce227, hce227, hMe227, hcc227⟩ := Kd.N_get HO_3.out [] x5_1 p227 (by first | exact q227 | exact of_decide_eq_true (by first | (with_reducible assumption) | assumption) | (have e_ := (Kd.N_reads' HO_3.out).1; omega))
       obtain ⟨ua227_0, uc227_0, rfl, ul227_0, ge227_0⟩ := Kd.FK_slice_open hMe227
       have hv227_0 := hcc227 0 _ rfl
       rw [Nat.add_zero, show ((Kd.slice 61 k61)).sz = 1 from rfl, Nat.mul_one] at hv227_0
       replace hv227_0 := Option.some.inj (hv227_0.symm.trans hx227_0)
       injection hv227_0 with hva_ hvn_ hvc_
       rw [hva_] at ge227_0
       rw [hvc_] at ul227_0
       have HL227_0 := Aside0.mk (show Kd.V k61 61 _ w.heap.size _ _ (rd_L3 t224 x5_1) from Kd.V_mk ul227_0 ge227_0)
       clear hva_ hvn_ hvc_ ge227_0 ul227_0
       clear hcc227 hce227
       have HR227_0 := Aside0.mk hi227_0
       have HC227_0 := Aside0.mk hl227_0
       clear hi227_0 hl227_0
       replace p227 := eq_true p227
       replace q227 := eq_true q227
       try go_wp2_with (first | ((with_reducible refine gate_builtin (b := .append) (xs := #[.tmp 29, .tmp 34]) rfl ?_); at_builtin; refine Kd.N_append (Kd.slice 61 k61) (w0 := w) w.heap.size rfl (.tmp 29) (.tmp 34) 22 40 (.slice none 0 0) 24 rfl Tryz.underlying22 info40 rfl (by decide) (by omega) u4 x4_1 (rd_L3 t224 x5_1) [.slice A227_0 (rd_L3 t224 x5_1).length c227_0] (fun k_ => (w.heap.size ≤ k_) ∧ some k_ ≠ (.slice (some ad227) t224.length co8 : Value).ownBlock) (fun k_ => ((fun k_ => (w.heap.size ≤ k_) ∧ some k_ ≠ (.slice (some ad227) t224.length co8 : Value).ownBlock)) k_ ∧ some k_ ≠ (u4 : Value).ownBlock) rfl rfl ?aP (fun _ hk => hk) ?aF ?aO ?aB ?aS ?aL ?_; (case aP => exact (Kd.FK_slice_mk (Kd.V_reads' (Kd.V_mono (ok' := (fun k_ => ((fun k_ => (w.heap.size ≤ k_) ∧ some k_ ≠ (.slice (some ad227) t224.length co8 : Value).ownBlock)) k_ ∧ some k_ ≠ (u4 : Value).ownBlock)) (HL227_0.out) (fun k_ hk => ⟨⟨hk.1.1, hk.2⟩, hk.1.2⟩))).2.1 (Kd.V_F (Kd.V_mono (ok' := (fun k_ => ((fun k_ => (w.heap.size ≤ k_) ∧ some k_ ≠ (.slice (some ad227) t224.length co8 : Value).ownBlock)) k_ ∧ some k_ ≠ (u4 : Value).ownBlock)) (HL227_0.out) (fun k_ hk => ⟨⟨hk.1.1, hk.2⟩, hk.1.2⟩))))); (case aB => exact (by repeat (first | (with_reducible first | exact HB.out | apply yA | apply yN | apply yD) | exact HB.out))); (case aF => exact (fun k_ hk => ⟨(Nat.le_trans (below_size (by repeat (first | (with_reducible first | exact HB.out | apply yA | apply yN | apply yD) | exact HB.out))) hk), Kd.fresh' (Kd.N_lt (by (with_reducible repeat (first | apply Kd.N_alloc | apply Kd.N_drewN | apply Kd.N_drew)); exact HO_3.out)) k_ hk⟩)); (case aO => exact (by (with_reducible repeat (first | apply Kd.N_alloc | apply Kd.N_drewN | apply Kd.N_drew)); exact HO_4.out)); (case aS => exact (below_size (by repeat (first | (with_reducible first | exact HB.out | apply yA | apply yN | apply yD) | exact HB.out)))); (case aL => have := LMc7.out; omega); intro v229 w10 ho hb hg hat; rw [← Ny228.out] at ho; have n0_ := Aside0.mk (Kd.N_afterv (ok := (fun k_ => (w.heap.size ≤ k_))) (by (with_reducible repeat (first | apply Kd.N_alloc | apply Kd.N_drewN | apply Kd.N_drew)); exact HO_3.out) hg hat); have n1_ := Aside0.mk (Kd.V_afterv (ok := (fun k_ => (w.heap.size ≤ k_) ∧ some k_ ≠ (.slice (some ad227) t224.length co8 : Value).ownBlock)) (by (with_reducible repeat (first | apply Kd.V_alloc | apply Kd.V_drewN | apply Kd.V_drew)); exact Kd.V_mono HL227_0.out (fun _ hk => ⟨⟨hk.1.1, hk.2⟩, hk.1.2⟩)) hg hat); have n2_ := Aside0.mk (hb); have n3_ := Aside0.mk (ho); clear HO_3; clear HL227_0; clear HB; clear HO_4; have HO_3 := n0_; have HL227_0 := n1_; have HB := n2_; have HO230 := n3_; clear n0_ n1_ n2_ n3_; clear ho hb hg hat))
       go_roundg k1
       case measure => have := HK1.out; omega
       case rel => exact ⟨(y228), (wrap64 (x5_1 + 1)), (by first | rfl | (simp; done) | (simp [*]; done)), H', ⟨by have := HK1.out; omega⟩, ⟨by (with_reducible repeat (first | apply Kd.N_alloc | apply Kd.N_drewN | apply Kd.N_drew)); exact HO_3.out⟩, ⟨by (with_reducible repeat (first | apply Kd.N_alloc | apply Kd.N_drewN | apply Kd.N_drew)); exact HO230.out⟩, ⟨by repeat (first | (with_reducible first | exact HB.out | apply yA | apply yN | apply yD) | exact HB.out)⟩⟩
      ·rw [if_neg c7] at H
       exact absurd H (by simp)
     ·rw [if_neg c6] at H
      exact absurd H (by simp)
    ·rw [if_neg c5] at H
     have c5b0 : (x5_1 == 0) = false := beq_eq_false_iff_ne.mpr c5
     have c5b1 : (x5_1 != 0) = true := bne_iff_ne.mpr c5
     by_cases c11 : 0 ≤ x5_1
     ·rw [if_pos c11] at H
      have c11b0 : decide (0 ≤ x5_1) = true := decide_eq_true c11
      clear c11
      obtain ⟨ji12, hji12⟩ : ∃ j_ : Int, (wrap64 (x5_1 - 1)) = j_ := ⟨_, rfl⟩
      replace H : (if 0 ≤ (ji12) then (if (ji12) < (t224.length : Int) then ((tacticianref02_Compare.f k1 (rd_L3 t224 x5_1) (rd_L3 t224 (ji12))).bind fun t233 => (if t233 = 0 then (tacticianref02_Distinct.l0 k1 t224 x4_1 (wrap64 (x5_1 + 1))) else (if x4_1.length < 5864062014805 then (tacticianref02_Distinct.l0 k1 t224 (x4_1 ++ [rd_L3 t224 x5_1]) (wrap64 (x5_1 + 1))) else (none)))) else (none)) else (none)) = some r := by first | (rw [hji12] at H; exact H) | (simp only [hji12] at H ⊢; exact H)
      have hji12w : (IntKind.i64.wrap (x5_1 - 1)) = ji12 := (i64_w _).trans hji12
      by_cases c13 : 0 ≤ (ji12)
      ·rw [if_pos c13] at H
       have c13b0 : decide (0 ≤ (ji12)) = true := decide_eq_true c13
       clear c13
       by_cases c14 : (ji12) < (t224.length : Int)
       ·rw [if_pos c14] at H
        have c14b0 : decide ((ji12) < (t224.length : Int)) = true := decide_eq_true c14
        clear c14
        replace H := Option.bind_eq_some_iff.mp H
        obtain ⟨t233, A150, H⟩ := H
        replace H : (if t233 = 0 then (tacticianref02_Distinct.l0 k1 t224 x4_1 (wrap64 (x5_1 + 1))) else (if x4_1.length < 5864062014805 then (tacticianref02_Distinct.l0 k1 t224 (x4_1 ++ [rd_L3 t224 x5_1]) (wrap64 (x5_1 + 1))) else (none))) = some r := H
        have A15 := Aside0.mk A150
        clear A150
        by_cases c16 : t233 = 0
        ·rw [if_pos c16] at H
         have c16b0 : (t233 == 0) = true := beq_iff_eq.mpr c16
         have c16b1 : (t233 != 0) = false := bne_eq_false_iff_eq.mpr c16
         clear c16
         have H' := Aside0.mk H
         clear H
         obtain ⟨Ao17, co17, eo17⟩ := Kd.N_slice HO_3.out
         subst eo17
         try go_wp2
         have n0_ := Aside0.mk (Kd.N_drew HO_3.out)
         have n1_ := Aside0.mk (Kd.N_drew HO_4.out)
         have n2_ := Aside0.mk (below_drew1 HB.out)
         clear HO_3
         clear HO_4
         clear HB
         have HO_3 := n0_
         have HO_4 := n1_
         have HB := n2_
         clear n0_ n1_ n2_
         have p231 : 0 ≤ (x5_1 : Int) := of_decide_eq_true (by first | (with_reducible assumption) | assumption)
         have q231 : x5_1 < (t224.length : Int) := of_decide_eq_true (by first | (with_reducible assumption) | assumption)
         obtain ⟨ad231, A231_0, c231_0, e231, hx231_0, hl231_0, hi231_0⟩ := at_L3 (Kd.N_reads' HO_3.out).2.2 x5_1 p231 q231
         cases e231
         obtain ⟨ce231, hce231, hMe231, hcc231⟩ := Kd.N_get HO_3.out [] x5_1 p231 (by first | exact q231 | exact of_decide_eq_true (by first | (with_reducible assumption) | assumption) | (have e_ := (Kd.N_reads' HO_3.out).1; omega))
         obtain ⟨ua231_0, uc231_0, rfl, ul231_0, ge231_0⟩ := Kd.FK_slice_open hMe231
         have hv231_0 := hcc231 0 _ rfl
         rw [Nat.add_zero, show ((Kd.slice 61 k61)).sz = 1 from rfl, Nat.mul_one] at hv231_0
         replace hv231_0 := Option.some.inj (hv231_0.symm.trans hx231_0)
         injection hv231_0 with hva_ hvn_ hvc_
         rw [hva_] at ge231_0
         rw [hvc_] at ul231_0
         have HL231_0 := Aside0.mk (show Kd.V k61 61 _ w.heap.size _ _ (rd_L3 t224 x5_1) from Kd.V_mk ul231_0 ge231_0)
         clear hva_ hvn_ hvc_ ge231_0 ul231_0
         clear hcc231 hce231
         have HR231_0 := Aside0.mk hi231_0
         have HC231_0 := Aside0.mk hl231_0
         clear hi231_0 hl231_0
         replace p231 := eq_true p231
         replace q231 := eq_true q231
         have p232 : 0 ≤ ((ji12) : Int) := of_decide_eq_true (by first | (with_reducible assumption) | assumption)
         have q232 : (ji12) < (t224.length : Int) := of_decide_eq_true (by first | (with_reducible assumption) | assumption)
         obtain ⟨ad232, A232_0, c232_0, e232, hx232_0, hl232_0, hi232_0⟩ := at_L3 (Kd.N_reads' HO_3.out).2.2 (ji12) p232 q232
         obtain rfl : ad231 = ad232 := (by injection e232)
         obtain ⟨ce232, hce232, hMe232, hcc232⟩ := Kd.N_get HO_3.out [] (ji12) p232 (by first | exact q232 | exact of_decide_eq_true (by first | (with_reducible assumption) | assumption) | (have e_ := (Kd.N_reads' HO_3.out).1; omega))
         obtain ⟨ua232_0, uc232_0, rfl, ul232_0, ge232_0⟩ := Kd.FK_slice_open hMe232
         have hv232_0 := hcc232 0 _ rfl
         rw [Nat.add_zero, show ((Kd.slice 61 k61)).sz = 1 from rfl, Nat.mul_one] at hv232_0
         replace hv232_0 := Option.some.inj (hv232_0.symm.trans hx232_0)
         injection hv232_0 with hva_ hvn_ hvc_
         rw [hva_] at ge232_0
         rw [hvc_] at ul232_0
         have HL232_0 := Aside0.mk (show Kd.V k61 61 _ w.heap.size _ _ (rd_L3 t224 (ji12)) from Kd.V_mk ul232_0 ge232_0)
         clear hva_ hvn_ hvc_ ge232_0 ul232_0
         clear hcc232 hce232
         have HR232_0 := Aside0.mk hi232_0
         have HC232_0 := Aside0.mk hl232_0
         clear hi232_0 hl232_0
         replace p232 := eq_true p232
         replace q232 := eq_true q232
         refine start_ (n := 15) (S := fun w' => w'.cell? (ad231.add (x5_1).toNat) = some (.slice A231_0 (rd_L3 t224 x5_1).length c231_0) ∧ w'.cell? (ad231.add ((ji12)).toNat) = some (.slice A232_0 (rd_L3 t224 (ji12)).length c232_0)) (ds := []) #[false, false, false, false, false, false, false, false, false, false, false, false, false, false, false] (by kernel_rfl) rfl rfl ⟨hx231_0, hx232_0⟩ (fun hHeld => ?_); refine with_tabW tacticianref02_Distinct.tab6 tacticianref02_Distinct.bits6 (fun HT_ HW_ => ?_)
         generalize wr.drew = w18 at HO_3 HO_4 HB HL231_0 HL232_0 HR231_0 HR232_0 hx231_0 hx232_0 hHeld ⊢
         refine pure_ (i := 0) (N := some 14) (v := ?_) (a' := ?_) #[true, false, false, false, false, false, false, false, false, false, false, false, false, false, false] rfl rfl (any_of HT_.out (by kernel_rfl)) (fun _ _ _ h => h) (Or.inl ⟨by rfl, ?_⟩) ?_ ?_
         rotate_left
         ·intro w'
          go_simp
          with_reducible rfl
         rotate_left
         ·simp only [Act.put, List.setIfInBounds_toArray, List.set_cons_zero, List.set_cons_succ, i64_w, i32_w]
          rfl
         refine pure_ (i := 1) (N := some 15) (v := ?_) (a' := ?_) #[true, true, false, false, false, false, false, false, false, false, false, false, false, false, false] rfl rfl (any_of HT_.out (by kernel_rfl)) (fun _ _ _ h => h) (Or.inl ⟨by rfl, ?_⟩) ?_ ?_
         rotate_left
         ·intro w'
          go_simp
          with_reducible rfl
         rotate_left
         ·simp only [Act.put, List.setIfInBounds_toArray, List.set_cons_zero, List.set_cons_succ, i64_w, i32_w]
          rfl
         refine pure_ (i := 2) (N := some 16) (v := ?_) (a' := ?_) #[true, true, true, false, false, false, false, false, false, false, false, false, false, false, false] rfl rfl (any_of HT_.out (by kernel_rfl)) (fun _ _ _ h => h) (Or.inl ⟨by rfl, ?_⟩) ?_ ?_
         rotate_left
         ·intro w'
          go_simp
          with_reducible rfl
         rotate_left
         ·simp only [Act.put, List.setIfInBounds_toArray, List.set_cons_zero, List.set_cons_succ, i64_w, i32_w]
          rfl
         refine pure_ (i := 3) (N := some 17) (v := ?_) (a' := ?_) #[true, true, true, true, false, false, false, false, false, false, false, false, false, false, false] rfl rfl (any_of HT_.out (by kernel_rfl)) (fun _ _ _ h => h) (Or.inl ⟨by rfl, ?_⟩) ?_ ?_
         rotate_left
         ·intro w'
          go_simp
          with_reducible rfl
         rotate_left
         ·simp only [Act.put, List.setIfInBounds_toArray, List.set_cons_zero, List.set_cons_succ, i64_w, i32_w]
          rfl
         refine pure_ (i := 4) (N := some 18) (v := ?_) (a' := ?_) #[true, true, true, true, true, false, false, false, false, false, false, false, false, false, false] rfl rfl (any_of HT_.out (by kernel_rfl)) (fun _ _ _ h => h) (Or.inl ⟨by rfl, ?_⟩) ?_ ?_
         rotate_left
         ·intro w'
          go_simp
          with_reducible rfl
         rotate_left
         ·simp only [Act.put, List.setIfInBounds_toArray, List.set_cons_zero, List.set_cons_succ, i64_w, i32_w]
          rfl
         refine pure_ (i := 5) (N := some 19) (v := ?_) (a' := ?_) #[true, true, true, true, true, true, false, false, false, false, false, false, false, false, false] rfl rfl (any_of HT_.out (by kernel_rfl)) (fun _ _ _ h => h) (Or.inl ⟨by rfl, ?_⟩) ?_ ?_
         rotate_left
         ·intro w'
          go_simp
          with_reducible rfl
         rotate_left
         ·simp only [Act.put, List.setIfInBounds_toArray, List.set_cons_zero, List.set_cons_succ, i64_w, i32_w]
          rfl
         refine pure_ (i := 7) (N := some 21) (v := ?_) (a' := ?_) #[true, true, true, true, true, true, false, true, false, false, false, false, false, false, false] rfl rfl (any_of HT_.out (by kernel_rfl)) (fun _ _ _ h => h) (Or.inl ⟨by rfl, ?_⟩) ?_ ?_
         rotate_left
         ·intro w'
          go_simp
          with_reducible rfl
         rotate_left
         ·simp only [Act.put, List.setIfInBounds_toArray, List.set_cons_zero, List.set_cons_succ, i64_w, i32_w]
          rfl
         refine pure_ (i := 8) (N := some 22) (v := ?_) (a' := ?_) #[true, true, true, true, true, true, false, true, true, false, false, false, false, false, false] rfl rfl (any_of HT_.out (by kernel_rfl)) (fun _ _ _ h => h) (Or.inl ⟨by rfl, ?_⟩) ?_ ?_
         rotate_left
         ·intro w'
          go_simp
          with_reducible rfl
         rotate_left
         ·simp only [Act.put, List.setIfInBounds_toArray, List.set_cons_zero, List.set_cons_succ, i64_w, i32_w]
          rfl
         refine pure_ (i := 9) (N := some 23) (v := ?_) (a' := ?_) #[true, true, true, true, true, true, false, true, true, true, false, false, false, false, false] rfl rfl (any_of HT_.out (by kernel_rfl)) (fun _ _ _ h => h) (Or.inl ⟨by rfl, ?_⟩) ?_ ?_
         rotate_left
         ·intro w'
          go_simp
          with_reducible rfl
         rotate_left
         ·simp only [Act.put, List.setIfInBounds_toArray, List.set_cons_zero, List.set_cons_succ, i64_w, i32_w]
          rfl
         refine pure_ (i := 10) (N := some 24) (v := ?_) (a' := ?_) #[true, true, true, true, true, true, false, true, true, true, true, false, false, false, false] rfl rfl (any_of HT_.out (by kernel_rfl)) (fun _ _ _ h => h) (Or.inl ⟨by rfl, ?_⟩) ?_ ?_
         rotate_left
         ·intro w'
          go_simp
          with_reducible rfl
         rotate_left
         ·simp only [Act.put, List.setIfInBounds_toArray, List.set_cons_zero, List.set_cons_succ, i64_w, i32_w]
          rfl
         refine take_ (i := 6) (N := some 20) (v := ?_) (a' := ?_) #[true, true, true, true, true, true, true, true, true, true, true, false, false, false, false] rfl rfl (take_ofW HT_.out HW_.out (by kernel_rfl)) (fun _ _ _ h => h) (Or.inl ⟨by rfl, ?_⟩) hHeld ?_ ?_
         rotate_left
         ·rintro w' ⟨s0, s1⟩
          go_simp
          with_reducible rfl
         rotate_left
         ·simp only [Act.put, List.setIfInBounds_toArray, List.set_cons_zero, List.set_cons_succ, i64_w, i32_w]
          rfl
         refine take_ (i := 11) (N := some 25) (v := ?_) (a' := ?_) #[true, true, true, true, true, true, true, true, true, true, true, true, false, false, false] rfl rfl (take_ofW HT_.out HW_.out (by kernel_rfl)) (fun _ _ _ h => h) (Or.inl ⟨by rfl, ?_⟩) hHeld ?_ ?_
         rotate_left
         ·rintro w' ⟨s0, s1⟩
          go_simp
          with_reducible rfl
         rotate_left
         ·simp only [Act.put, List.setIfInBounds_toArray, List.set_cons_zero, List.set_cons_succ, i64_w, i32_w]
          rfl
         refine one_ (i := 12) (N := some 26) #[true, true, true, true, true, true, true, true, true, true, true, true, true, false, false] rfl rfl (one_of HT_.out (by kernel_rfl)) (by decide) (fun K hK => ?_)
         refine goes_ Tryz.func29 (by kernel_rfl) rfl #[.slice A231_0 (rd_L3 t224 x5_1).length c231_0, .slice A232_0 (rd_L3 t224 (ji12)).length c232_0] (by rfl) rfl rfl (by (try simp only [List.map_toArray, List.map_cons, List.map_nil]); first | done | (simp only [hji12]; rfl) | rfl | (simp only [List.length_drop, List.length_take]; rfl)) ?_
         with_reducible refine (tacticianref02_Compare.calls k1 _ _ (rd_L3 t224 x5_1) _ _ (rd_L3 t224 (ji12)) t233 _ ?side1 ?side2 ?side3 ?side4 A15.out).mono ?_
         (case side1 => repeat (first | exact (by repeat (first | (with_reducible exact HR231_0.out) | (with_reducible refine Kd.C_alloc ?_ _) | (with_reducible refine Kd.C_drewN ?_ _) | (with_reducible refine Kd.C_drew ?_) | exact HR231_0.out)) | (with_reducible refine Kd.C_alloc ?_ _) | (with_reducible refine Kd.C_drewN ?_ _) | (with_reducible refine Kd.C_drew ?_)))
         (case side2 => exact HC231_0.out)
         (case side3 => repeat (first | exact (by repeat (first | (with_reducible exact HR232_0.out) | (with_reducible refine Kd.C_alloc ?_ _) | (with_reducible refine Kd.C_drewN ?_ _) | (with_reducible refine Kd.C_drew ?_) | exact HR232_0.out)) | (with_reducible refine Kd.C_alloc ?_ _) | (with_reducible refine Kd.C_drewN ?_ _) | (with_reducible refine Kd.C_drew ?_)))
         (case side4 => exact HC232_0.out)
         rintro e w19 ⟨rfl, hb⟩
         have HS0_ := (hb.cell (World.block_lt_of_cell? _ _ (hHeld.1))).trans (hHeld.1)
         have HS1_ := (hb.cell (World.block_lt_of_cell? _ _ (hHeld.2))).trans (hHeld.2)
         refine ⟨_, rfl, ?_⟩
         have n0_ := Aside0.mk (Kd.N_below (by (with_reducible repeat (first | apply Kd.N_alloc | apply Kd.N_drewN | apply Kd.N_drew)); exact HO_3.out) hb)
         have n1_ := Aside0.mk (Kd.N_below (by (with_reducible repeat (first | apply Kd.N_alloc | apply Kd.N_drewN | apply Kd.N_drew)); exact HO_4.out) hb)
         have n2_ := Aside0.mk (Kd.V_below (by (with_reducible repeat (first | apply Kd.V_alloc | apply Kd.V_drewN | apply Kd.V_drew)); exact HL231_0.out) hb)
         have n3_ := Aside0.mk (Kd.V_below (by (with_reducible repeat (first | apply Kd.V_alloc | apply Kd.V_drewN | apply Kd.V_drew)); exact HL232_0.out) hb)
         have n4_ := Aside0.mk (Kd.C_below (by repeat (first | (with_reducible exact HR231_0.out) | (with_reducible refine Kd.C_alloc ?_ _) | (with_reducible refine Kd.C_drewN ?_ _) | (with_reducible refine Kd.C_drew ?_) | exact HR231_0.out)) hb)
         have n5_ := Aside0.mk (Kd.C_below (by repeat (first | (with_reducible exact HR232_0.out) | (with_reducible refine Kd.C_alloc ?_ _) | (with_reducible refine Kd.C_drewN ?_ _) | (with_reducible refine Kd.C_drew ?_) | exact HR232_0.out)) hb)
         have n6_ := Aside0.mk (below_step (by repeat (first | (with_reducible first | exact HB.out | apply yA | apply yN | apply yD) | exact HB.out)) hb)
         clear HO_3
         clear HO_4
         clear HL231_0
         clear HL232_0
         clear HR231_0
         clear HR232_0
         clear HB
         have HO_3 := n0_
         have HO_4 := n1_
         have HL231_0 := n2_
         have HL232_0 := n3_
         have HR231_0 := n4_
         have HR232_0 := n5_
         have HB := n6_
         clear n0_ n1_ n2_ n3_ n4_ n5_ n6_
         (try clear hb)
         (try clear hb2)
         (try clear hk)
         (try clear hi)
         refine hK.out _ _ ⟨HS0_, HS1_⟩ (fun hHeld => ?_)
         clear hK K
         refine norm_ (a' := ?_) ?_ ?_
         rotate_left
         ·show Act.put _ (some 26) _ = _
          simp only [Act.put, List.setIfInBounds_toArray, List.set_cons_zero, List.set_cons_succ, i64_w, i32_w]
          rfl
         refine pure_ (i := 13) (N := some 27) (v := ?_) (a' := ?_) #[true, true, true, true, true, true, true, true, true, true, true, true, true, true, false] rfl rfl (any_of HT_.out (by kernel_rfl)) (fun _ _ _ h => h) (Or.inl ⟨by rfl, ?_⟩) ?_ ?_
         rotate_left
         ·intro w'
          go_simp
          with_reducible rfl
         rotate_left
         ·simp only [Act.put, List.setIfInBounds_toArray, List.set_cons_zero, List.set_cons_succ, i64_w, i32_w]
          rfl
         refine pure_ (i := 14) (N := some 28) (v := ?_) (a' := ?_) #[true, true, true, true, true, true, true, true, true, true, true, true, true, true, true] rfl rfl (any_of HT_.out (by kernel_rfl)) (fun _ _ _ h => h) (Or.inl ⟨by rfl, ?_⟩) ?_ ?_
         rotate_left
         ·intro w'
          go_simp
          with_reducible rfl
         rotate_left
         ·simp only [Act.put, List.setIfInBounds_toArray, List.set_cons_zero, List.set_cons_succ, i64_w, i32_w]
          rfl
         refine done_ (done_of HT_.out (by kernel_rfl)) ?_
         try go_wp2
         go_roundg k1
         case measure => have := HK1.out; omega
         case rel => exact ⟨(x4_1), (wrap64 (x5_1 + 1)), (by first | rfl | (simp; done) | (simp [*]; done)), H', ⟨by have := HK1.out; omega⟩, ⟨by (with_reducible repeat (first | apply Kd.N_alloc | apply Kd.N_drewN | apply Kd.N_drew)); exact HO_3.out⟩, ⟨by (with_reducible repeat (first | apply Kd.N_alloc | apply Kd.N_drewN | apply Kd.N_drew)); exact HO_4.out⟩, ⟨by repeat (first | (with_reducible first | exact HB.out | apply yA | apply yN | apply yD) | exact HB.out)⟩⟩
        ·rw [if_neg c16] at H
         have c16b0 : (t233 == 0) = false := beq_eq_false_iff_ne.mpr c16
         have c16b1 : (t233 != 0) = true := bne_iff_ne.mpr c16
         by_cases c20 : x4_1.length < 5864062014805
         ·rw [if_pos c20] at H
          have LMc20 := Aside0.mk c20
          clear c20
          obtain ⟨y235, hy235⟩ : ∃ y_ : List (List (S61)), y_ = (x4_1 ++ [rd_L3 t224 x5_1]) := ⟨_, rfl⟩
          replace H : (tacticianref02_Distinct.l0 k1 t224 y235 (wrap64 (x5_1 + 1))) = some r := by first | (rw [hy235]; with_reducible exact H) | (have H2_ := (Option.bind_some _ _).symm.trans H; rw [hy235]; with_reducible exact H2_) | (have H2_ := (Option.bind_some _ _).symm.trans H; with_reducible exact H2_) | with_reducible exact H | (rw [hy235]; exact H) | exact H
          have Ny235 := Aside0.mk hy235
          clear hy235
          have H' := Aside0.mk H
          clear H
          obtain ⟨Ao21, co21, eo21⟩ := Kd.N_slice HO_3.out
          subst eo21
          try go_wp2
          have n0_ := Aside0.mk (Kd.N_drew HO_3.out)
          have n1_ := Aside0.mk (Kd.N_drew HO_4.out)
          have n2_ := Aside0.mk (below_drew1 HB.out)
          clear HO_3
          clear HO_4
          clear HB
          have HO_3 := n0_
          have HO_4 := n1_
          have HB := n2_
          clear n0_ n1_ n2_
          have p231 : 0 ≤ (x5_1 : Int) := of_decide_eq_true (by first | (with_reducible assumption) | assumption)
          have q231 : x5_1 < (t224.length : Int) := of_decide_eq_true (by first | (with_reducible assumption) | assumption)
          obtain ⟨ad231, A231_0, c231_0, e231, hx231_0, hl231_0, hi231_0⟩ := at_L3 (Kd.N_reads' HO_3.out).2.2 x5_1 p231 q231
          cases e231
          obtain ⟨ce231, hce231, hMe231, hcc231⟩ := Kd.N_get HO_3.out [] x5_1 p231 (by first | exact q231 | exact of_decide_eq_true (by first | (with_reducible assumption) | assumption) | (have e_ := (Kd.N_reads' HO_3.out).1; omega))
          obtain ⟨ua231_0, uc231_0, rfl, ul231_0, ge231_0⟩ := Kd.FK_slice_open hMe231
          have hv231_0 := hcc231 0 _ rfl
          rw [Nat.add_zero, show ((Kd.slice 61 k61)).sz = 1 from rfl, Nat.mul_one] at hv231_0
          replace hv231_0 := Option.some.inj (hv231_0.symm.trans hx231_0)
          injection hv231_0 with hva_ hvn_ hvc_
          rw [hva_] at ge231_0
          rw [hvc_] at ul231_0
          have HL231_0 := Aside0.mk (show Kd.V k61 61 _ w.heap.size _ _ (rd_L3 t224 x5_1) from Kd.V_mk ul231_0 ge231_0)
          clear hva_ hvn_ hvc_ ge231_0 ul231_0
          clear hcc231 hce231
          have HR231_0 := Aside0.mk hi231_0
          have HC231_0 := Aside0.mk hl231_0
          clear hi231_0 hl231_0
          replace p231 := eq_true p231
          replace q231 := eq_true q231
          have p232 : 0 ≤ ((ji12) : Int) := of_decide_eq_true (by first | (with_reducible assumption) | assumption)
          have q232 : (ji12) < (t224.length : Int) := of_decide_eq_true (by first | (with_reducible assumption) | assumption)
          obtain ⟨ad232, A232_0, c232_0, e232, hx232_0, hl232_0, hi232_0⟩ := at_L3 (Kd.N_reads' HO_3.out).2.2 (ji12) p232 q232
          obtain rfl : ad231 = ad232 := (by injection e232)
          obtain ⟨ce232, hce232, hMe232, hcc232⟩ := Kd.N_get HO_3.out [] (ji12) p232 (by first | exact q232 | exact of_decide_eq_true (by first | (with_reducible assumption) | assumption) | (have e_ := (Kd.N_reads' HO_3.out).1; omega))
          obtain ⟨ua232_0, uc232_0, rfl, ul232_0, ge232_0⟩ := Kd.FK_slice_open hMe232
          have hv232_0 := hcc232 0 _ rfl
          rw [Nat.add_zero, show ((Kd.slice 61 k61)).sz = 1 from rfl, Nat.mul_one] at hv232_0
          replace hv232_0 := Option.some.inj (hv232_0.symm.trans hx232_0)
          injection hv232_0 with hva_ hvn_ hvc_
          rw [hva_] at ge232_0
          rw [hvc_] at ul232_0
          have HL232_0 := Aside0.mk (show Kd.V k61 61 _ w.heap.size _ _ (rd_L3 t224 (ji12)) from Kd.V_mk ul232_0 ge232_0)
          clear hva_ hvn_ hvc_ ge232_0 ul232_0
          clear hcc232 hce232
          have HR232_0 := Aside0.mk hi232_0
          have HC232_0 := Aside0.mk hl232_0
          clear hi232_0 hl232_0
          replace p232 := eq_true p232
          replace q232 := eq_true q232
          refine start_ (n := 15) (S := fun w' => w'.cell? (ad231.add (x5_1).toNat) = some (.slice A231_0 (rd_L3 t224 x5_1).length c231_0) ∧ w'.cell? (ad231.add ((ji12)).toNat) = some (.slice A232_0 (rd_L3 t224 (ji12)).length c232_0)) (ds := []) #[false, false, false, false, false, false, false, false, false, false, false, false, false, false, false] (by kernel_rfl) rfl rfl ⟨hx231_0, hx232_0⟩ (fun hHeld => ?_); refine with_tabW tacticianref02_Distinct.tab6 tacticianref02_Distinct.bits6 (fun HT_ HW_ => ?_)
          generalize wr.drew = w22 at HO_3 HO_4 HB HL231_0 HL232_0 HR231_0 HR232_0 hx231_0 hx232_0 hHeld ⊢
          refine pure_ (i := 0) (N := some 14) (v := ?_) (a' := ?_) #[true, false, false, false, false, false, false, false, false, false, false, false, false, false, false] rfl rfl (any_of HT_.out (by kernel_rfl)) (fun _ _ _ h => h) (Or.inl ⟨by rfl, ?_⟩) ?_ ?_
          rotate_left
          ·intro w'
           go_simp
           with_reducible rfl
          rotate_left
          ·simp only [Act.put, List.setIfInBounds_toArray, List.set_cons_zero, List.set_cons_succ, i64_w, i32_w]
           rfl
          refine pure_ (i := 1) (N := some 15) (v := ?_) (a' := ?_) #[true, true, false, false, false, false, false, false, false, false, false, false, false, false, false] rfl rfl (any_of HT_.out (by kernel_rfl)) (fun _ _ _ h => h) (Or.inl ⟨by rfl, ?_⟩) ?_ ?_
          rotate_left
          ·intro w'
           go_simp
           with_reducible rfl
          rotate_left
          ·simp only [Act.put, List.setIfInBounds_toArray, List.set_cons_zero, List.set_cons_succ, i64_w, i32_w]
           rfl
          refine pure_ (i := 2) (N := some 16) (v := ?_) (a' := ?_) #[true, true, true, false, false, false, false, false, false, false, false, false, false, false, false] rfl rfl (any_of HT_.out (by kernel_rfl)) (fun _ _ _ h => h) (Or.inl ⟨by rfl, ?_⟩) ?_ ?_
          rotate_left
          ·intro w'
           go_simp
           with_reducible rfl
          rotate_left
          ·simp only [Act.put, List.setIfInBounds_toArray, List.set_cons_zero, List.set_cons_succ, i64_w, i32_w]
           rfl
          refine pure_ (i := 3) (N := some 17) (v := ?_) (a' := ?_) #[true, true, true, true, false, false, false, false, false, false, false, false, false, false, false] rfl rfl (any_of HT_.out (by kernel_rfl)) (fun _ _ _ h => h) (Or.inl ⟨by rfl, ?_⟩) ?_ ?_
          rotate_left
          ·intro w'
           go_simp
           with_reducible rfl
          rotate_left
          ·simp only [Act.put, List.setIfInBounds_toArray, List.set_cons_zero, List.set_cons_succ, i64_w, i32_w]
           rfl
          refine pure_ (i := 4) (N := some 18) (v := ?_) (a' := ?_) #[true, true, true, true, true, false, false, false, false, false, false, false, false, false, false] rfl rfl (any_of HT_.out (by kernel_rfl)) (fun _ _ _ h => h) (Or.inl ⟨by rfl, ?_⟩) ?_ ?_
          rotate_left
          ·intro w'
           go_simp
           with_reducible rfl
          rotate_left
          ·simp only [Act.put, List.setIfInBounds_toArray, List.set_cons_zero, List.set_cons_succ, i64_w, i32_w]
           rfl
          refine pure_ (i := 5) (N := some 19) (v := ?_) (a' := ?_) #[true, true, true, true, true, true, false, false, false, false, false, false, false, false, false] rfl rfl (any_of HT_.out (by kernel_rfl)) (fun _ _ _ h => h) (Or.inl ⟨by rfl, ?_⟩) ?_ ?_
          rotate_left
          ·intro w'
           go_simp
           with_reducible rfl
          rotate_left
          ·simp only [Act.put, List.setIfInBounds_toArray, List.set_cons_zero, List.set_cons_succ, i64_w, i32_w]
           rfl
          refine pure_ (i := 7) (N := some 21) (v := ?_) (a' := ?_) #[true, true, true, true, true, true, false, true, false, false, false, false, false, false, false] rfl rfl (any_of HT_.out (by kernel_rfl)) (fun _ _ _ h => h) (Or.inl ⟨by rfl, ?_⟩) ?_ ?_
          rotate_left
          ·intro w'
           go_simp
           with_reducible rfl
          rotate_left
          ·simp only [Act.put, List.setIfInBounds_toArray, List.set_cons_zero, List.set_cons_succ, i64_w, i32_w]
           rfl
          refine pure_ (i := 8) (N := some 22) (v := ?_) (a' := ?_) #[true, true, true, true, true, true, false, true, true, false, false, false, false, false, false] rfl rfl (any_of HT_.out (by kernel_rfl)) (fun _ _ _ h => h) (Or.inl ⟨by rfl, ?_⟩) ?_ ?_
          rotate_left
          ·intro w'
           go_simp
           with_reducible rfl
          rotate_left
          ·simp only [Act.put, List.setIfInBounds_toArray, List.set_cons_zero, List.set_cons_succ, i64_w, i32_w]
           rfl
          refine pure_ (i := 9) (N := some 23) (v := ?_) (a' := ?_) #[true, true, true, true, true, true, false, true, true, true, false, false, false, false, false] rfl rfl (any_of HT_.out (by kernel_rfl)) (fun _ _ _ h => h) (Or.inl ⟨by rfl, ?_⟩) ?_ ?_
          rotate_left
          ·intro w'
           go_simp
           with_reducible rfl
          rotate_left
          ·simp only [Act.put, List.setIfInBounds_toArray, List.set_cons_zero, List.set_cons_succ, i64_w, i32_w]
           rfl
          refine pure_ (i := 10) (N := some 24) (v := ?_) (a' := ?_) #[true, true, true, true, true, true, false, true, true, true, true, false, false, false, false] rfl rfl (any_of HT_.out (by kernel_rfl)) (fun _ _ _ h => h) (Or.inl ⟨by rfl, ?_⟩) ?_ ?_
          rotate_left
          ·intro w'
           go_simp
           with_reducible rfl
          rotate_left
          ·simp only [Act.put, List.setIfInBounds_toArray, List.set_cons_zero, List.set_cons_succ, i64_w, i32_w]
           rfl
          refine take_ (i := 6) (N := some 20) (v := ?_) (a' := ?_) #[true, true, true, true, true, true, true, true, true, true, true, false, false, false, false] rfl rfl (take_ofW HT_.out HW_.out (by kernel_rfl)) (fun _ _ _ h => h) (Or.inl ⟨by rfl, ?_⟩) hHeld ?_ ?_
          rotate_left
          ·rintro w' ⟨s0, s1⟩
           go_simp
           with_reducible rfl
          rotate_left
          ·simp only [Act.put, List.setIfInBounds_toArray, List.set_cons_zero, List.set_cons_succ, i64_w, i32_w]
           rfl
          refine take_ (i := 11) (N := some 25) (v := ?_) (a' := ?_) #[true, true, true, true, true, true, true, true, true, true, true, true, false, false, false] rfl rfl (take_ofW HT_.out HW_.out (by kernel_rfl)) (fun _ _ _ h => h) (Or.inl ⟨by rfl, ?_⟩) hHeld ?_ ?_
          rotate_left
          ·rintro w' ⟨s0, s1⟩
           go_simp
           with_reducible rfl
          rotate_left
          ·simp only [Act.put, List.setIfInBounds_toArray, List.set_cons_zero, List.set_cons_succ, i64_w, i32_w]
           rfl
          refine one_ (i := 12) (N := some 26) #[true, true, true, true, true, true, true, true, true, true, true, true, true, false, false] rfl rfl (one_of HT_.out (by kernel_rfl)) (by decide) (fun K hK => ?_)
          refine goes_ Tryz.func29 (by kernel_rfl) rfl #[.slice A231_0 (rd_L3 t224 x5_1).length c231_0, .slice A232_0 (rd_L3 t224 (ji12)).length c232_0] (by rfl) rfl rfl (by (try simp only [List.map_toArray, List.map_cons, List.map_nil]); first | done | (simp only [hji12]; rfl) | rfl | (simp only [List.length_drop, List.length_take]; rfl)) ?_
          with_reducible refine (tacticianref02_Compare.calls k1 _ _ (rd_L3 t224 x5_1) _ _ (rd_L3 t224 (ji12)) t233 _ ?side1 ?side2 ?side3 ?side4 A15.out).mono ?_
          (case side1 => repeat (first | exact (by repeat (first | (with_reducible exact HR231_0.out) | (with_reducible refine Kd.C_alloc ?_ _) | (with_reducible refine Kd.C_drewN ?_ _) | (with_reducible refine Kd.C_drew ?_) | exact HR231_0.out)) | (with_reducible refine Kd.C_alloc ?_ _) | (with_reducible refine Kd.C_drewN ?_ _) | (with_reducible refine Kd.C_drew ?_)))
          (case side2 => exact HC231_0.out)
          (case side3 => repeat (first | exact (by repeat (first | (with_reducible exact HR232_0.out) | (with_reducible refine Kd.C_alloc ?_ _) | (with_reducible refine Kd.C_drewN ?_ _) | (with_reducible refine Kd.C_drew ?_) | exact HR232_0.out)) | (with_reducible refine Kd.C_alloc ?_ _) | (with_reducible refine Kd.C_drewN ?_ _) | (with_reducible refine Kd.C_drew ?_)))
          (case side4 => exact HC232_0.out)
          rintro e w23 ⟨rfl, hb⟩
          have HS0_ := (hb.cell (World.block_lt_of_cell? _ _ (hHeld.1))).trans (hHeld.1)
          have HS1_ := (hb.cell (World.block_lt_of_cell? _ _ (hHeld.2))).trans (hHeld.2)
          refine ⟨_, rfl, ?_⟩
          have n0_ := Aside0.mk (Kd.N_below (by (with_reducible repeat (first | apply Kd.N_alloc | apply Kd.N_drewN | apply Kd.N_drew)); exact HO_3.out) hb)
          have n1_ := Aside0.mk (Kd.N_below (by (with_reducible repeat (first | apply Kd.N_alloc | apply Kd.N_drewN | apply Kd.N_drew)); exact HO_4.out) hb)
          have n2_ := Aside0.mk (Kd.V_below (by (with_reducible repeat (first | apply Kd.V_alloc | apply Kd.V_drewN | apply Kd.V_drew)); exact HL231_0.out) hb)
          have n3_ := Aside0.mk (Kd.V_below (by (with_reducible repeat (first | apply Kd.V_alloc | apply Kd.V_drewN | apply Kd.V_drew)); exact HL232_0.out) hb)
          have n4_ := Aside0.mk (Kd.C_below (by repeat (first | (with_reducible exact HR231_0.out) | (with_reducible refine Kd.C_alloc ?_ _) | (with_reducible refine Kd.C_drewN ?_ _) | (with_reducible refine Kd.C_drew ?_) | exact HR231_0.out)) hb)
          have n5_ := Aside0.mk (Kd.C_below (by repeat (first | (with_reducible exact HR232_0.out) | (with_reducible refine Kd.C_alloc ?_ _) | (with_reducible refine Kd.C_drewN ?_ _) | (with_reducible refine Kd.C_drew ?_) | exact HR232_0.out)) hb)
          have n6_ := Aside0.mk (below_step (by repeat (first | (with_reducible first | exact HB.out | apply yA | apply yN | apply yD) | exact HB.out)) hb)
          clear HO_3
          clear HO_4
          clear HL231_0
          clear HL232_0
          clear HR231_0
          clear HR232_0
          clear HB
          have HO_3 := n0_
          have HO_4 := n1_
          have HL231_0 := n2_
          have HL232_0 := n3_
          have HR231_0 := n4_
          have HR232_0 := n5_
          have HB := n6_
          clear n0_ n1_ n2_ n3_ n4_ n5_ n6_
          (try clear hb)
          (try clear hb2)
          (try clear hk)
          (try clear hi)
          refine hK.out _ _ ⟨HS0_, HS1_⟩ (fun hHeld => ?_)
          clear hK K
          refine norm_ (a' := ?_) ?_ ?_
          rotate_left
          ·show Act.put _ (some 26) _ = _
           simp only [Act.put, List.setIfInBounds_toArray, List.set_cons_zero, List.set_cons_succ, i64_w, i32_w]
           rfl
          refine pure_ (i := 13) (N := some 27) (v := ?_) (a' := ?_) #[true, true, true, true, true, true, true, true, true, true, true, true, true, true, false] rfl rfl (any_of HT_.out (by kernel_rfl)) (fun _ _ _ h => h) (Or.inl ⟨by rfl, ?_⟩) ?_ ?_
          rotate_left
          ·intro w'
           go_simp
           with_reducible rfl
          rotate_left
          ·simp only [Act.put, List.setIfInBounds_toArray, List.set_cons_zero, List.set_cons_succ, i64_w, i32_w]
           rfl
          refine pure_ (i := 14) (N := some 28) (v := ?_) (a' := ?_) #[true, true, true, true, true, true, true, true, true, true, true, true, true, true, true] rfl rfl (any_of HT_.out (by kernel_rfl)) (fun _ _ _ h => h) (Or.inl ⟨by rfl, ?_⟩) ?_ ?_
          rotate_left
          ·intro w'
           go_simp
           with_reducible rfl
          rotate_left
          ·simp only [Act.put, List.setIfInBounds_toArray, List.set_cons_zero, List.set_cons_succ, i64_w, i32_w]
           rfl
          refine done_ (done_of HT_.out (by kernel_rfl)) ?_
          have p234 : 0 ≤ (x5_1 : Int) := of_decide_eq_true (by first | (with_reducible assumption) | assumption)
          have q234 : x5_1 < (t224.length : Int) := of_decide_eq_true (by first | (with_reducible assumption) | assumption)
          obtain ⟨ad234, A234_0, c234_0, e234, hx234_0, hl234_0, hi234_0⟩ := at_L3 (Kd.N_reads' HO_3.out).2.2 x5_1 p234 q234
          obtain rfl : ad231 = ad234 := (by injection e234)
          obtain ⟨ce234, hce234, hMe234, hcc234⟩ := Kd.N_get HO_3.out [] x5_1 p234 (by first | exact q234 | exact of_decide_eq_true (by first | (with_reducible assumption) | assumption) | (have e_ := (Kd.N_reads' HO_3.out).1; omega))
          obtain ⟨ua234_0, uc234_0, rfl, ul234_0, ge234_0⟩ := Kd.FK_slice_open hMe234
          have hv234_0 := hcc234 0 _ rfl
          rw [Nat.add_zero, show ((Kd.slice 61 k61)).sz = 1 from rfl, Nat.mul_one] at hv234_0
          replace hv234_0 := Option.some.inj (hv234_0.symm.trans hx234_0)
          injection hv234_0 with hva_ hvn_ hvc_
          rw [hva_] at ge234_0
          rw [hvc_] at ul234_0
          have HL234_0 := Aside0.mk (show Kd.V k61 61 _ w.heap.size _ _ (rd_L3 t224 x5_1) from Kd.V_mk ul234_0 ge234_0)
          clear hva_ hvn_ hvc_ ge234_0 ul234_0
          clear hcc234 hce234
          have HR234_0 := Aside0.mk hi234_0
          have HC234_0 := Aside0.mk hl234_0
          clear hi234_0 hl234_0
          replace p234 := eq_true p234
          replace q234 := eq_true q234
          try clear hx231_0
          try clear HS0_
          try clear HS1_
          try clear HS2_
          try clear HS3_
          try clear hHeld
          try go_wp2_with (first | ((with_reducible refine gate_builtin (b := .append) (xs := #[.tmp 29, .tmp 34]) rfl ?_); at_builtin; refine Kd.N_append (Kd.slice 61 k61) (w0 := w) w.heap.size rfl (.tmp 29) (.tmp 34) 22 40 (.slice none 0 0) 24 rfl Tryz.underlying22 info40 rfl (by decide) (by omega) u4 x4_1 (rd_L3 t224 x5_1) [.slice A234_0 (rd_L3 t224 x5_1).length c234_0] (fun k_ => (w.heap.size ≤ k_) ∧ some k_ ≠ (.slice (some ad231) t224.length co21 : Value).ownBlock) (fun k_ => ((fun k_ => (w.heap.size ≤ k_) ∧ some k_ ≠ (.slice (some ad231) t224.length co21 : Value).ownBlock)) k_ ∧ some k_ ≠ (u4 : Value).ownBlock) rfl rfl ?aP (fun _ hk => hk) ?aF ?aO ?aB ?aS ?aL ?_; (case aP => exact (Kd.FK_slice_mk (Kd.V_reads' (Kd.V_mono (ok' := (fun k_ => ((fun k_ => (w.heap.size ≤ k_) ∧ some k_ ≠ (.slice (some ad231) t224.length co21 : Value).ownBlock)) k_ ∧ some k_ ≠ (u4 : Value).ownBlock)) (HL234_0.out) (fun k_ hk => ⟨⟨hk.1.1, hk.2⟩, hk.1.2⟩))).2.1 (Kd.V_F (Kd.V_mono (ok' := (fun k_ => ((fun k_ => (w.heap.size ≤ k_) ∧ some k_ ≠ (.slice (some ad231) t224.length co21 : Value).ownBlock)) k_ ∧ some k_ ≠ (u4 : Value).ownBlock)) (HL234_0.out) (fun k_ hk => ⟨⟨hk.1.1, hk.2⟩, hk.1.2⟩))))); (case aB => exact (by repeat (first | (with_reducible first | exact HB.out | apply yA | apply yN | apply yD) | exact HB.out))); (case aF => exact (fun k_ hk => ⟨(Nat.le_trans (below_size (by repeat (first | (with_reducible first | exact HB.out | apply yA | apply yN | apply yD) | exact HB.out))) hk), Kd.fresh' (Kd.N_lt (by (with_reducible repeat (first | apply Kd.N_alloc | apply Kd.N_drewN | apply Kd.N_drew)); exact HO_3.out)) k_ hk⟩)); (case aO => exact (by (with_reducible repeat (first | apply Kd.N_alloc | apply Kd.N_drewN | apply Kd.N_drew)); exact HO_4.out)); (case aS => exact (below_size (by repeat (first | (with_reducible first | exact HB.out | apply yA | apply yN | apply yD) | exact HB.out)))); (case aL => have := LMc20.out; omega); intro v236 w24 ho hb hg hat; rw [← Ny235.out] at ho; have n0_ := Aside0.mk (Kd.N_afterv (ok := (fun k_ => (w.heap.size ≤ k_))) (by (with_reducible repeat (first | apply Kd.N_alloc | apply Kd.N_drewN | apply Kd.N_drew)); exact HO_3.out) hg hat); have n1_ := Aside0.mk (Kd.V_afterv (ok := (fun k_ => (w.heap.size ≤ k_) ∧ some k_ ≠ (.slice (some ad231) t224.length co21 : Value).ownBlock)) (by (with_reducible repeat (first | apply Kd.V_alloc | apply Kd.V_drewN | apply Kd.V_drew)); exact Kd.V_mono HL231_0.out (fun _ hk => ⟨⟨hk.1.1, hk.2⟩, hk.1.2⟩)) hg hat); have n2_ := Aside0.mk (Kd.V_afterv (ok := (fun k_ => (w.heap.size ≤ k_) ∧ some k_ ≠ (.slice (some ad231) t224.length co21 : Value).ownBlock)) (by (with_reducible repeat (first | apply Kd.V_alloc | apply Kd.V_drewN | apply Kd.V_drew)); exact Kd.V_mono HL232_0.out (fun _ hk => ⟨⟨hk.1.1, hk.2⟩, hk.1.2⟩)) hg hat); have n3_ := Aside0.mk (Kd.V_afterv (ok := (fun k_ => (w.heap.size ≤ k_) ∧ some k_ ≠ (.slice (some ad231) t224.length co21 : Value).ownBlock)) (by (with_reducible repeat (first | apply Kd.V_alloc | apply Kd.V_drewN | apply Kd.V_drew)); exact Kd.V_mono HL234_0.out (fun _ hk => ⟨⟨hk.1.1, hk.2⟩, hk.1.2⟩)) hg hat); have n4_ := Aside0.mk (hb); have n5_ := Aside0.mk (ho); clear HO_3; clear HL231_0; clear HL232_0; clear HL234_0; clear HB; clear HO_4; have HO_3 := n0_; have HL231_0 := n1_; have HL232_0 := n2_; have HL234_0 := n3_; have HB := n4_; have HO237 := n5_; clear n0_ n1_ n2_ n3_ n4_ n5_; clear ho hb hg hat))
          go_roundg k1
          case measure => have := HK1.out; omega
          case rel => exact ⟨(y235), (wrap64 (x5_1 + 1)), (by first | rfl | (simp; done) | (simp [*]; done)), H', ⟨by have := HK1.out; omega⟩, ⟨by (with_reducible repeat (first | apply Kd.N_alloc | apply Kd.N_drewN | apply Kd.N_drew)); exact HO_3.out⟩, ⟨by (with_reducible repeat (first | apply Kd.N_alloc | apply Kd.N_drewN | apply Kd.N_drew)); exact HO237.out⟩, ⟨by repeat (first | (with_reducible first | exact HB.out | apply yA | apply yN | apply yD) | exact HB.out)⟩⟩
         ·rw [if_neg c20] at H
          exact absurd H (by simp)
       ·rw [if_neg c14] at H
        exact absurd H (by simp)
      ·rw [if_neg c13] at H
       exact absurd H (by simp)
     ·rw [if_neg c11] at H
      exact absurd H (by simp)
   ·rw [if_neg c4] at H
    have c4b0 : decide (x5_1 < (t224.length : Int)) = false := decide_eq_false c4
    clear c4
    obtain rfl := Option.some.inj H
    obtain ⟨Ao25, co25, eo25⟩ := Kd.N_slice HO_3.out
    subst eo25
    go_wp2
    go_ret
    exact ⟨_, by first | rfl | (simp [errW_none, errW_some] <;> rfl) | (simp [*, errW_none, errW_some] <;> rfl), by (with_reducible repeat (first | apply Kd.N_alloc | apply Kd.N_drewN | apply Kd.N_drew)); exact Kd.N_mono HO_4.out (fun _ hk => hk.1), by repeat (first | (with_reducible first | exact HB.out | apply yA | apply yN | apply yD) | exact HB.out)⟩
end Go.Proofs.YtmhobbdedmjmnaaGreatDoor.Q
end
section
/- What the plain definitions on rows answer: rows ordered by keys, each once; no program in sight. -/
namespace Go.Proofs.YtmhobbdedmjmnaaGreatDoor
open Go.RowKit Go.Proofs.YtmhobbdedmjmnaaGreatDoor.Q Go.Proofs.YtmhobbdedmjmnaaGreatDoorW.PrintWords Go.Proofs.YtmhobbdedmjmnaaGreatDoorW.PrintLast Go.Proofs.YtmhobbdedmjmnaaGreatDoorW.PrintMore
theorem rdK_at (l : List KK) (k : Nat) (h : k < l.length) : rd_T36 l (k : Int) = l[k] := by
  unfold rd_T36
  simp [h]
theorem rdV_at (r : List V) (i : Int) : rd_T61 r i = atR r i := rfl
theorem atR_ok {r : List V} (h : RowOk r) {i : Int} (h0 : 0 ≤ i) (h1 : i < r.length) : (atR r i).f2.size ≤ 1000 := by
  unfold atR
  have hi : i.toNat < r.length := by omega
  rw [show r.getD i.toNat ⟨0, 0, ⟨#[]⟩⟩ = r[i.toNat] by simp [hi]]
  exact (h.2 _ (List.getElem_mem hi)).1
theorem refBy_loop (ks : List KK) (a b : List V) (ha : RowOk a) (hb : RowOk b) (hn : ks.length ≤ 1000) (hp : ∀ k ∈ ks, 0 ≤ k.f0 ∧ k.f0 < a.length ∧ k.f0 < b.length) : ∀ (d i k : Nat), i + d = ks.length → 2 * d + 302 ≤ k →
    tacticianref02_by.l0 k ks a b (i : Int) = some (cfK (keysOf (ks.drop i)) a b) := by
  intro d
  induction d with
  | zero =>
    intro i k hi hk
    obtain ⟨k, rfl⟩ : ∃ m, k = m + 1 := ⟨k - 1, by omega⟩
    rw [tacticianref02_by.l0, if_neg (by omega), refCmp a b ha hb k (by omega), List.drop_of_length_le (by omega)]
    rfl
  | succ d ih =>
    intro i k hi hk
    obtain ⟨k, rfl⟩ : ∃ m, k = m + 2 := ⟨k - 2, by omega⟩
    have h1 : i < ks.length := by omega
    obtain ⟨p0, p1, p2⟩ := hp _ (List.getElem_mem h1)
    have ih1 := ih (i + 1) k (by omega) (by omega)
    have hc := cfV_cases (atR a ks[i].f0) (atR b ks[i].f0)
    rw [List.drop_eq_getElem_cons h1]
    show _ = some (cfK ((ks[i].f0, ks[i].f1) :: keysOf (ks.drop (i + 1))) a b)
    rw [cfK_cons, tacticianref02_by.l0, if_pos (by omega), if_pos (by omega), rdK_at ks i h1, if_pos p0, if_pos p1, if_pos p2, rdV_at, rdV_at, refCmpV (atR_ok ha p0 p1) (atR_ok hb p0 p2), Option.bind_some]
    dsimp only
    generalize cfV (atR a ks[i].f0) (atR b ks[i].f0) = c at hc ⊢
    by_cases h : c = 0
    · rw [if_pos h, tacticianref02_by.j1, if_neg (by decide), if_pos h, wrap_small (n := (i : Int) + 1) (by omega) (by omega), show ((i : Int) + 1) = ((i + 1 : Nat) : Int) by omega, ih1]
      subst h
      rw [if_neg (by simp)]
    · rw [if_neg h, tacticianref02_by.j1]
      cases ks[i].f1 with
      | true =>
        rw [if_pos rfl, if_pos rfl, if_pos (by omega)]
        congr 1
        unfold wrap64
        omega
      | false =>
        simp only [Bool.false_eq_true, if_false]
        rw [if_neg h, if_pos h]
theorem refBy (ks : List KK) (a b : List V) (ha : RowOk a) (hb : RowOk b) (hn : ks.length ≤ 1000) (hp : ∀ k ∈ ks, 0 ≤ k.f0 ∧ k.f0 < a.length ∧ k.f0 < b.length) (k : Nat) (hk : 2302 ≤ k) :
    tacticianref02_by.f k ks a b = some (cfK (keysOf ks) a b) := by
  unfold tacticianref02_by.f
  exact refBy_loop ks a b ha hb hn hp ks.length 0 k (by omega) (by omega)
/-- keys that name places of every row -/
def KeysIn (ks : List KK) (l : List (List V)) : Prop := ks.length ≤ 1000 ∧ ∀ k ∈ ks, ∀ r ∈ l, 0 ≤ k.f0 ∧ k.f0 < r.length
theorem mergeR_loop (ks : List KK) (a b : List (List V)) (ha : RowsOk 100000 a) (hb : RowsOk 100000 b) (hka : KeysIn ks a) (hkb : KeysIn ks b) : ∀ (d i j k : Nat) (out : List (List V)), (a.length - i) + (b.length - j) = d → i ≤ a.length → j ≤ b.length → out.length + d ≤ 1000000 → 2 * d + 2400 ≤ k →
    tacticianref02_Ordered.l0 k ks a b out (i : Int) (j : Int) = some (out ++ (a.drop i).merge (b.drop j) (leOf (cfK (keysOf ks)))) := by
  have hla := ha.1
  have hlb := hb.1
  intro d
  induction d with
  | zero =>
    intro i j k out hd hi hj ho hk
    obtain ⟨k, rfl⟩ : ∃ m, k = m + 2 := ⟨k - 2, by omega⟩
    have h1 : ¬ (i : Int) < (a.length : Int) := by omega
    have h2 : ¬ (j : Int) < (b.length : Int) := by omega
    rw [tacticianref02_Ordered.l0, if_neg h1, decide_eq_false h2, tacticianref02_Ordered.j1, if_neg (by decide), List.drop_of_length_le (by omega), List.drop_of_length_le (by omega), List.merge, List.append_nil]
  | succ d ih =>
    intro i j k out hd hi hj ho hk
    obtain ⟨k, rfl⟩ : ∃ m, k = m + 2 := ⟨k - 2, by omega⟩
    have hk' : 2 * d + 2400 ≤ k := by omega
    have mj : j < b.length → a.length - i + (b.length - (j + 1)) = d := fun h => by omega
    have mi : i < a.length → a.length - (i + 1) + (b.length - j) = d := fun h => by omega
    have ml : ¬ j < b.length → i < a.length := fun h => by omega
    have hgo : tacticianref02_Ordered.l0 (k + 2) ks a b out (i : Int) (j : Int) = tacticianref02_Ordered.j1 (k + 1) ks a b out (i : Int) (j : Int) true := by
      rw [tacticianref02_Ordered.l0]
      by_cases h : (i : Int) < (a.length : Int)
      · rw [if_pos h]
      · rw [if_neg h, decide_eq_true (show (j : Int) < (b.length : Int) by omega)]
    rw [hgo, tacticianref02_Ordered.j1, if_pos rfl]
    have w1 : wrap64 ((i : Int) + 1) = ((i + 1 : Nat) : Int) := by rw [wrap_small (by omega) (by omega)]; omega
    have w2 : wrap64 ((j : Int) + 1) = ((j + 1 : Nat) : Int) := by rw [wrap_small (by omega) (by omega)]; omega
    rw [w1, w2]
    have hol : out.length < 5864062014805 := by omega
    have hout : ∀ x : List V, (out ++ [x]).length + d ≤ 1000000 := fun x => by simp only [List.length_append, List.length_singleton]; omega
    have i0 : (0 : Int) ≤ (i : Int) := Int.natCast_nonneg i
    have j0 : (0 : Int) ≤ (j : Int) := Int.natCast_nonneg j
    by_cases hjl : j < b.length
    · have jl : (j : Int) < (b.length : Int) := Int.ofNat_lt.2 hjl
      have je : ¬ (j : Int) = (b.length : Int) := Int.ne_of_lt jl
      have eb : b.drop j = b[j] :: b.drop (j + 1) := List.drop_eq_getElem_cons hjl
      have ihj := fun x => ih i (j + 1) k (out ++ [x]) (mj hjl) hi hjl (hout x) hk'
      rw [if_neg je]
      by_cases hil : i < a.length
      · have il : (i : Int) < (a.length : Int) := Int.ofNat_lt.2 hil
        have ea : a.drop i = a[i] :: a.drop (i + 1) := List.drop_eq_getElem_cons hil
        have ihi := fun x => ih (i + 1) j k (out ++ [x]) (mi hil) hil hj (hout x) hk'
        have hma := List.getElem_mem hil
        have hmb := List.getElem_mem hjl
        rw [if_pos il, if_pos i0, if_pos j0, if_pos jl, rdL_at a i hil, rdL_at b j hjl, refBy ks _ _ (ha.2 _ hma) (hb.2 _ hmb) hka.1 (fun q hq => ⟨(hka.2 q hq _ hma).1, (hka.2 q hq _ hma).2, (hkb.2 q hq _ hmb).2⟩) k (by omega), Option.bind_some]
        by_cases hc : cfK (keysOf ks) a[i] b[j] ≤ 0
        · rw [if_pos hc, if_pos hol]
          refine (ihi a[i]).trans ?_
          have hle : leOf (cfK (keysOf ks)) a[i] b[j] = true := decide_eq_true hc
          have e : (a.drop i).merge (b.drop j) (leOf (cfK (keysOf ks))) = a[i] :: (a.drop (i + 1)).merge (b.drop j) (leOf (cfK (keysOf ks))) := by rw [ea, eb]; exact List.cons_merge_cons_pos _ _ _ hle
          rw [e, List.append_assoc]
          rfl
        · rw [if_neg hc, if_pos hol]
          refine (ihj b[j]).trans ?_
          have hle : ¬ leOf (cfK (keysOf ks)) a[i] b[j] = true := by unfold leOf; rw [decide_eq_true_eq]; exact hc
          have e : (a.drop i).merge (b.drop j) (leOf (cfK (keysOf ks))) = b[j] :: (a.drop i).merge (b.drop (j + 1)) (leOf (cfK (keysOf ks))) := by rw [ea, eb]; exact List.cons_merge_cons_neg _ _ _ hle
          rw [e, List.append_assoc]
          rfl
      · have il : ¬ (i : Int) < (a.length : Int) := fun h => hil (Int.ofNat_lt.1 h)
        rw [if_neg il, if_pos j0, if_pos jl, if_pos hol, rdL_at b j hjl]
        refine (ihj b[j]).trans ?_
        rw [List.drop_of_length_le (Nat.le_of_not_lt hil), eb, List.nil_merge, List.nil_merge, List.append_assoc]
        rfl
    · have hje : j = b.length := Nat.le_antisymm hj (Nat.le_of_not_lt hjl)
      have je : (j : Int) = (b.length : Int) := by rw [hje]
      have hil : i < a.length := ml hjl
      clear hje
      have il : (i : Int) < (a.length : Int) := Int.ofNat_lt.2 hil
      have ea : a.drop i = a[i] :: a.drop (i + 1) := List.drop_eq_getElem_cons hil
      have ihi := fun x => ih (i + 1) j k (out ++ [x]) (mi hil) hil hj (hout x) hk'
      rw [if_pos je, if_pos i0, if_pos il, if_pos hol, rdL_at a i hil]
      refine (ihi a[i]).trans ?_
      rw [List.drop_of_length_le (Nat.le_of_not_lt hjl), ea, List.merge_right, List.merge_right, List.append_assoc]
      rfl
theorem RowsOk.sub {n m : Nat} {l r : List (List V)} (h : RowsOk n l) (hs : ∀ x ∈ r, x ∈ l) (hl : r.length ≤ m) : RowsOk m r := ⟨hl, fun x hx => h.2 x (hs x hx)⟩
theorem KeysIn.sub {ks : List KK} {l r : List (List V)} (h : KeysIn ks l) (hs : ∀ x ∈ r, x ∈ l) : KeysIn ks r := ⟨h.1, fun k hk x hx => h.2 k hk x (hs x hx)⟩
theorem refOrdered_go (ks : List KK) : ∀ (n : Nat) (l : List (List V)), l.length ≤ n → RowsOk 100000 l → KeysIn ks l → ∀ k, 3 * l.length + 110000 ≤ k → tacticianref02_Ordered.f k l ks = some (sortBy (cfK (keysOf ks)) l) := by
  have tc := cfK_tc (keysOf ks)
  have small : ∀ l : List (List V), l.length < 2 → l = sortBy (cfK (keysOf ks)) l := fun l h2 => by
    refine tc.unique (List.Perm.refl _) ?_
    match l, h2 with
    | [], _ => exact List.Pairwise.nil
    | [x], _ => exact List.pairwise_singleton _ _
    | _ :: _ :: _, h => simp at h; omega
  intro n
  induction n with
  | zero =>
    intro l hl hr _ k hk
    obtain ⟨k, rfl⟩ : ∃ m, k = m + 1 := ⟨k - 1, by omega⟩
    rw [tacticianref02_Ordered.f, if_pos (by omega), refCopy l hr k (by omega), Option.bind_some, ← small l (by omega)]
  | succ n ih =>
    intro l hl hr hks k hk
    have hl1 := hr.1
    obtain ⟨k, rfl⟩ : ∃ m, k = m + 1 := ⟨k - 1, by omega⟩
    rw [tacticianref02_Ordered.f]
    by_cases h2 : l.length < 2
    · rw [if_pos (by omega), refCopy l hr k (by omega), Option.bind_some, ← small l h2]
    · have hw : wrap64 ((l.length : Int) / 2) = ((l.length / 2 : Nat) : Int) := by rw [wrap_small (by omega) (by omega)]; omega
      have ht : (l.take (l.length / 2)).length = l.length / 2 := by rw [List.length_take]; omega
      have hd : (l.drop (l.length / 2)).length = l.length - l.length / 2 := List.length_drop
      have mt : ∀ x ∈ l.take (l.length / 2), x ∈ l := fun x hx => List.mem_of_mem_take hx
      have md : ∀ x ∈ l.drop (l.length / 2), x ∈ l := fun x hx => List.mem_of_mem_drop hx
      rw [if_neg (by omega), hw, if_pos (by omega), if_pos (by omega), Int.toNat_natCast, ih (l.take (l.length / 2)) (by omega) (hr.sub mt (by omega)) (hks.sub mt) k (by omega), ih (l.drop (l.length / 2)) (by omega) (hr.sub md (by omega)) (hks.sub md) k (by omega)]
      simp only [Option.bind_some]
      have st : ∀ x ∈ sortBy (cfK (keysOf ks)) (l.take (l.length / 2)), x ∈ l := fun x hx => mt x (sortBy_mem.1 hx)
      have sd : ∀ x ∈ sortBy (cfK (keysOf ks)) (l.drop (l.length / 2)), x ∈ l := fun x hx => md x (sortBy_mem.1 hx)
      have h3 := mergeR_loop ks (sortBy (cfK (keysOf ks)) (l.take (l.length / 2))) (sortBy (cfK (keysOf ks)) (l.drop (l.length / 2)))
        (hr.sub st (by rw [sortBy_length]; omega)) (hr.sub sd (by rw [sortBy_length]; omega)) (hks.sub st) (hks.sub sd)
        l.length 0 0 k [] (by rw [sortBy_length, sortBy_length]; omega) (Nat.zero_le _) (Nat.zero_le _) (by rw [List.length_nil]; omega) (by omega)
      rw [show (0 : Int) = ((0 : Nat) : Int) from rfl, h3, List.nil_append, List.drop_zero, List.drop_zero]
      congr 1
      refine tc.unique ?_ (List.pairwise_merge tc.le_trans tc.le_total _ _ (tc.sorted _) (tc.sorted _))
      refine List.Perm.trans (List.merge_perm_append (le := leOf (cfK (keysOf ks)))) ?_
      refine (List.Perm.append (sortBy_perm _ _) (sortBy_perm _ _)).trans ?_
      rw [List.take_append_drop]
theorem refOrdered (ks : List KK) (l : List (List V)) (hr : RowsOk 100000 l) (hks : KeysIn ks l) (k : Nat) (hk : 410000 ≤ k) : tacticianref02_Ordered.f k l ks = some (sortBy (cfK (keysOf ks)) l) := by
  have hl1 := hr.1
  exact refOrdered_go ks l.length l (Nat.le_refl _) hr hks k (by omega)
theorem cfK_nil : cfK [] = cfR := by
  funext a b
  rfl
theorem refCanonical (l : List (List V)) (hr : RowsOk 100000 l) (k : Nat) (hk : 410000 ≤ k) : tacticianref02_Canonical.f k l = some (canR l) := by
  unfold tacticianref02_Canonical.f
  rw [refOrdered [] l hr ⟨Nat.zero_le _, fun k hk => by cases hk⟩ k hk]
  show _ = some (sortBy cfR l)
  rw [← cfK_nil]
  rfl
theorem distinctR_loop (s : List (List V)) (hr : RowsOk 100000 s) : ∀ (d i k : Nat), i + d = s.length → d + 301 ≤ k →
    tacticianref02_Distinct.l0 k s (Lib.compactUpTo s.toArray i) (i : Int) = some (onceOf s) := by
  have hl := hr.1
  intro d
  induction d with
  | zero =>
    intro i k hi hk
    obtain ⟨k, rfl⟩ : ∃ m, k = m + 1 := ⟨k - 1, by omega⟩
    rw [tacticianref02_Distinct.l0, if_neg (by omega)]
    have : i = s.length := by omega
    subst this
    rfl
  | succ d ih =>
    intro i k hi hk
    obtain ⟨k, rfl⟩ : ∃ m, k = m + 1 := ⟨k - 1, by omega⟩
    have hlt : i < s.length := by omega
    have hlen : (Lib.compactUpTo s.toArray i).length ≤ i := by
      unfold Lib.compactUpTo
      rw [List.length_map]
      exact Nat.le_trans (List.length_filter_le _ _) (by simp)
    have hstep := ih (i + 1) k (by omega) (by omega)
    rw [Lib.compactUpTo_succ] at hstep
    have e1 : s.toArray[i]! = s[i] := by simp [hlt]
    have hw : wrap64 ((i : Int) + 1) = ((i + 1 : Nat) : Int) := by rw [wrap_small (by omega) (by omega)]; omega
    rw [tacticianref02_Distinct.l0, if_pos (by omega)]
    by_cases h0 : i = 0
    · subst h0
      rw [if_pos (show ((0 : Nat) : Int) = 0 from rfl), if_pos (show (0 : Int) ≤ ((0 : Nat) : Int) from Int.le_refl 0), if_pos (by omega), rdL_at s 0 hlt, hw]
      rw [Lib.keeps_lt_one _ 0 (by omega), if_pos rfl, e1] at hstep
      exact hstep
    · have hw2 : wrap64 ((i : Int) - 1) = ((i - 1 : Nat) : Int) := by rw [wrap_small (by omega) (by omega)]; omega
      have hlt2 : i - 1 < s.length := by omega
      have e2 : s.toArray[i - 1]! = s[i - 1] := by simp [hlt2]
      rw [if_neg (by omega), if_pos (by omega), hw2, if_pos (by omega), if_pos (by omega), rdL_at s i hlt, rdL_at s (i - 1) hlt2, refCmp _ _ (hr.2 _ (List.getElem_mem hlt)) (hr.2 _ (List.getElem_mem hlt2)) k (by omega), Option.bind_some, hw]
      by_cases h : s[i] = s[i - 1]
      · rw [if_pos ((cfR_zero _ _).2 h)]
        rw [Lib.keeps_neg (by omega) (by rw [e1, e2]; exact h), if_neg (by simp), List.append_nil] at hstep
        exact hstep
      · rw [if_neg (fun e => h ((cfR_zero _ _).1 e)), if_pos (by omega)]
        rw [Lib.keeps_pos (by rw [e1, e2]; exact h), if_pos rfl, e1] at hstep
        exact hstep
theorem canR_ok {n : Nat} {l : List (List V)} (h : RowsOk n l) : RowsOk n (canR l) := h.sub (fun _ hx => sortBy_mem.1 hx) (by unfold canR; rw [sortBy_length]; exact h.1)
theorem refDistinctR (l : List (List V)) (hr : RowsOk 100000 l) (k : Nat) (hk : 410000 ≤ k) : tacticianref02_Distinct.f k l = some (oneR l) := by
  have hl := hr.1
  have hc := canR_ok hr
  have hc1 := hc.1
  unfold tacticianref02_Distinct.f
  rw [refCanonical l hr k hk, Option.bind_some]
  exact distinctR_loop (canR l) hc (canR l).length 0 k (by omega) (by omega)
theorem oneR_ok {n : Nat} {l : List (List V)} (h : RowsOk n l) : RowsOk n (oneR l) := h.sub (fun x hx => ((oneR_spec l).2 x).1 hx) (Nat.le_trans (oneR_len l) h.1)
end Go.Proofs.YtmhobbdedmjmnaaGreatDoor
end
section
/- Each function reached is shown to return what the plain function beside it computes, wherever that is defined (written by a program of ours for this seat). -/
namespace Go.Proofs.YtmhobbdedmjmnaaGreatDoor.Q
open Go.RowKit Go.Proofs.YtmhobbdedmjmnaaGreatDoorW.PrintWords Go.Proofs.YtmhobbdedmjmnaaGreatDoorW.PrintLast Go.Proofs.YtmhobbdedmjmnaaGreatDoorW.PrintMore
attribute [local go_sem] max2_int min2_int max_two min_two max_three min_three max_four min_four   -- for this text's walks alone
set_option linter.unusedVariables false
set_option linter.unusedSimpArgs false
end Go.Proofs.YtmhobbdedmjmnaaGreatDoor.Q
end
section
/- Each function reached is shown to return what the plain function beside it computes, wherever that is defined (written by a program of ours for this seat). -/
namespace Go.Proofs.YtmhobbdedmjmnaaGreatDoor.Q
open Go.RowKit Go.Proofs.YtmhobbdedmjmnaaGreatDoorW.PrintWords Go.Proofs.YtmhobbdedmjmnaaGreatDoorW.PrintLast Go.Proofs.YtmhobbdedmjmnaaGreatDoorW.PrintMore
attribute [local go_sem] max2_int min2_int max_two min_two max_three min_three max_four min_four   -- for this text's walks alone
set_option linter.unusedVariables false
set_option linter.unusedSimpArgs false
end Go.Proofs.YtmhobbdedmjmnaaGreatDoor.Q
end
section
/- What the plain definitions on rows answer: in both lists, and what is left of one; no program in sight. -/
end
section
/- What the arguments of the laws on rows are, cut short; what is wrong with them; in plain words. -/
namespace Go.Proofs.YtmhobbdedmjmnaaGreatDoor
open Go.RowKit Go.Proofs.YtmhobbdedmjmnaaGreatDoor.Q Go.Proofs.YtmhobbdedmjmnaaGreatDoorW.PrintWords Go.Proofs.YtmhobbdedmjmnaaGreatDoorW.PrintLast Go.Proofs.YtmhobbdedmjmnaaGreatDoorW.PrintMore
/-- a row, rows that come in -/
def argRow (x : List V) : Prop := x.length * 32 ≤ 140737488351232 ∧ x.length ≤ maxLen ∧ ∀ xx ∈ x, (Lit.int .i64 xx.f0).wf = true ∧ (Lit.int .i64 xx.f1).wf = true ∧ xx.f2.size ≤ 140737488351232
def argRows (l : List (List V)) : Prop := l.length * 24 ≤ 140737488351232 ∧ l.length ≤ maxLen ∧ ∀ x ∈ l, argRow x
theorem argRow_ok {r : List V} (h : argRow r) : RowOk (cutRow r) := cutRow_ok h.2.2
theorem argRows_ok {n : Nat} {l : List (List V)} (h : argRows l) : RowsOk n (cutRows n l) := cutRows_ok fun r hr => (h.2.2 r hr).2.2
theorem RowsOk.grow {n m : Nat} {l : List (List V)} (h : RowsOk n l) (hn : n ≤ m) : RowsOk m l := h.sub (fun _ h => h) (Nat.le_trans h.1 hn)
theorem smallE_nil (a : List (List V)) : smallE [a, []] = smallE [a] := by
  unfold smallE
  have h1 : largeR [] = false := rfl
  have h2 : wrongR [] = false := rfl
  simp only [List.any_cons, List.any_nil, Bool.or_false, h1, h2]
theorem okR_of {n : Nat} {a : List (List V)} (ha : RowsOk n a) (hn : n ≤ 100000) : okR a = true := okR_mk (by have := ha.1; omega) fun r hr => by have := (ha.2 r hr).1; omega
end Go.Proofs.YtmhobbdedmjmnaaGreatDoor
end
section
/- Each function reached is shown to return what the plain function beside it computes, wherever that is defined (written by a program of ours for this seat). -/
namespace Go.Proofs.YtmhobbdedmjmnaaGreatDoor.Q
open Go.RowKit Go.Proofs.YtmhobbdedmjmnaaGreatDoorW.PrintWords Go.Proofs.YtmhobbdedmjmnaaGreatDoorW.PrintLast Go.Proofs.YtmhobbdedmjmnaaGreatDoorW.PrintMore
attribute [local go_sem] max2_int min2_int max_two min_two max_three min_three max_four min_four   -- for this text's walks alone
set_option linter.unusedVariables false
set_option linter.unusedSimpArgs false
/-! ### rows_Compare: function 27 -/
section
theorem row_K {W : World} {A : Option Addr} {c : Nat} {x : List V} (h : Kd.C k61 W A x.length x) (hc : x.length ≤ c) : (Kd.slice 61 k61).K W x [.slice A x.length c] := ⟨A, c, rfl, hc, h⟩
theorem small_lit1 (A0 : Option Addr) (c0 : Nat) (l0 : List V) (W : World) (hr0 : Kd.C k61 W A0 l0.length l0) (hc0 : l0.length ≤ c0) :
    Calls Tryz.prog 52 #[.slice (some ⟨W.heap.size + 1, 0, none⟩) 1 1] ((W.alloc (.cells #[.slice A0 l0.length c0] 40)).alloc (.cells #[.slice (some ⟨W.heap.size, 0, none⟩) 1 1] 22)) fun e w' => e = .returned (.int .i64 (smallE [[l0]])) ∧ Below W.heap.size W w' := by
  have hb1 : Below W.heap.size W (W.alloc (.cells #[.slice A0 l0.length c0] 40)) := below_alloc (Below.refl _ _) _
  have hC1 : Kd.C (Kd.slice 61 k61) (W.alloc (.cells #[.slice A0 l0.length c0] 40)) (some ⟨W.heap.size, 0, none⟩) 1 [l0] :=
    C_lit rfl (blk_new W _) (Reps.one (row_K (Kd.C_below hr0 hb1) hc0) (Reps.none _ _)) (show 1 ≤ 1000 by decide)
  have hs1 : (W.alloc (.cells #[.slice A0 l0.length c0] 40)).heap.size = W.heap.size + 1 := by simp
  generalize W.alloc (.cells #[.slice A0 l0.length c0] 40) = W1 at hb1 hC1 hs1 ⊢
  have hb2 : Below W1.heap.size W1 (W1.alloc (.cells #[.slice (some ⟨W.heap.size, 0, none⟩) 1 1] 22)) := below_alloc (Below.refl _ _) _
  have hC2 : Kd.C (Kd.slice 40 (Kd.slice 61 k61)) (W1.alloc (.cells #[.slice (some ⟨W.heap.size, 0, none⟩) 1 1] 22)) (some ⟨W1.heap.size, 0, none⟩) 1 [[l0]] :=
    C_lit rfl (blk_new W1 _) (Reps.one (K_row (x := [l0]) (Kd.C_below hC1 hb2) (Nat.le_refl _)) (Reps.none _ _)) (show 1 ≤ 1000 by decide)
  rw [← hs1]
  exact (rows_small.calls (some ⟨W1.heap.size, 0, none⟩) 1 [[l0]] _ _ hC2 (Nat.le_refl _) rfl).mono fun _ _ ⟨he, hb3⟩ => ⟨he, below_step hb1 (below_step hb2 hb3)⟩
end
def rows_Sorted.f (l0 : List (List V)) : Option (List (List V)) := if okR l0 = true then some (canR l0) else none
set_option maxHeartbeats 1000000 in
theorem rows_Sorted.calls (A0 : Option Addr) (c0 : Nat) (l0 : List (List V)) (r : List (List V)) (w : World) (hr0 : Kd.C (Kd.slice 61 k61) w A0 l0.length l0) (hc0 : l0.length ≤ c0) (h : rows_Sorted.f l0 = some r) :
  Calls Tryz.prog 64 #[.slice A0 l0.length c0] w fun e w' => ∃ v0_ : Value, e = .returned (v0_) ∧ Kd.S (Kd.slice 61 k61) 40 w' w.heap.size (fun _ => True) v0_ r ∧ Below w.heap.size w w' := by
 unfold rows_Sorted.f at h
 by_cases hs : okR l0 = true
 case neg => rw [if_neg hs] at h; cases h
 rw [if_pos hs] at h
 obtain rfl := Option.some.inj h
 have HC := Aside0.mk (rows_Copy_s.calls A0 c0 l0 l0 w hr0 hc0 (by unfold rows_Copy_s.f; rw [if_pos hs]))
 have HS := Aside0.mk hs
 clear hr0 hc0 hs h
 generalize l0.length = n at HC ⊢
 go_enter Tryz.func64, Tryz.ntmps64
 go_wp2_with (first
  | (go_at_call 59; refine HC.out.mono ?_; rintro e w1 ⟨v1, rfl, hv1, hb1⟩; have HV1 := Aside0.mk hv1; have HB1 := Aside0.mk hb1; clear hv1 hb1)
  | (go_at_call 60; refine (sortR_can _ _ _ _ _ HV1.out HS.out).mono ?_; rintro e w2 ⟨rfl, hv2, _, hb2⟩; have HV2 := Aside0.mk hv2; have HB2 := Aside0.mk (hb2 w.heap.size w (Nat.le_refl _) HB1.out HB1.out.size); clear hv2 hb2))
 go_ret
 exact ⟨_, rfl, HV2.out, HB2.out⟩
end Go.Proofs.YtmhobbdedmjmnaaGreatDoor.Q
end
section
/- Each function reached is shown to return what the plain function beside it computes, wherever that is defined (written by a program of ours for this seat). -/
namespace Go.Proofs.YtmhobbdedmjmnaaGreatDoor.Q
open Go.RowKit Go.Proofs.YtmhobbdedmjmnaaGreatDoorW.PrintWords Go.Proofs.YtmhobbdedmjmnaaGreatDoorW.PrintLast Go.Proofs.YtmhobbdedmjmnaaGreatDoorW.PrintMore
attribute [local go_sem] max2_int min2_int max_two min_two max_three min_three max_four min_four   -- for this text's walks alone
set_option linter.unusedVariables false
set_option linter.unusedSimpArgs false
theorem eqA61 (d : Nat) (w : World) (x0 y0 : Int) (x1 y1 : Int) (x2 y2 : ByteArray) :
  (Op.equalIn (d + 2) 61 (.agg #[.int .i64 x0, .int .i64 x1, .string x2]) (.agg #[.int .i64 y0, .int .i64 y1, .string y2])).run Tryz.prog w = .ok (x0 == y0 && (x1 == y1 && (x2.toList == y2.toList))) w := by
 refine eqA_of Tryz.underlying61 (by kernel_rfl) ?_
 refine eqf_cons (by rfl) (by go_simp; rfl) (by go_simp; rfl) (by go_simp) ?_
 refine eqf_cons (by rfl) (by go_simp; rfl) (by go_simp; rfl) (by go_simp) ?_
 exact eqf_last (by rfl) (by go_simp; rfl) (by go_simp; rfl) (by go_simp)
end Go.Proofs.YtmhobbdedmjmnaaGreatDoor.Q
end
section
/- Each function reached is shown to return what the plain function beside it computes, wherever that is defined (written by a program of ours for this seat). -/
namespace Go.Proofs.YtmhobbdedmjmnaaGreatDoor.Q
open Go.RowKit Go.Proofs.YtmhobbdedmjmnaaGreatDoorW.PrintWords Go.Proofs.YtmhobbdedmjmnaaGreatDoorW.PrintLast Go.Proofs.YtmhobbdedmjmnaaGreatDoorW.PrintMore
attribute [local go_sem] max2_int min2_int max_two min_two max_three min_three max_four min_four   -- for this text's walks alone
set_option linter.unusedVariables false
set_option linter.unusedSimpArgs false
end Go.Proofs.YtmhobbdedmjmnaaGreatDoor.Q
end
section
/- Each function reached is shown to return what the plain function beside it computes, wherever that is defined (written by a program of ours for this seat). -/
namespace Go.Proofs.YtmhobbdedmjmnaaGreatDoor.Q
open Go.RowKit Go.Proofs.YtmhobbdedmjmnaaGreatDoorW.PrintWords Go.Proofs.YtmhobbdedmjmnaaGreatDoorW.PrintLast Go.Proofs.YtmhobbdedmjmnaaGreatDoorW.PrintMore
attribute [local go_sem] max2_int min2_int max_two min_two max_three min_three max_four min_four   -- for this text's walks alone
set_option linter.unusedVariables false
set_option linter.unusedSimpArgs false
end Go.Proofs.YtmhobbdedmjmnaaGreatDoor.Q
end
section
/- Each function reached is shown to return what the plain function beside it computes, wherever that is defined (written by a program of ours for this seat). -/
namespace Go.Proofs.YtmhobbdedmjmnaaGreatDoor.Q
open Go.RowKit Go.Proofs.YtmhobbdedmjmnaaGreatDoorW.PrintWords Go.Proofs.YtmhobbdedmjmnaaGreatDoorW.PrintLast Go.Proofs.YtmhobbdedmjmnaaGreatDoorW.PrintMore
attribute [local go_sem] max2_int min2_int max_two min_two max_three min_three max_four min_four   -- for this text's walks alone
set_option linter.unusedVariables false
set_option linter.unusedSimpArgs false
end Go.Proofs.YtmhobbdedmjmnaaGreatDoor.Q
end
section
/- Each function reached is shown to return what the plain function beside it computes, wherever that is defined (written by a program of ours for this seat). -/
namespace Go.Proofs.YtmhobbdedmjmnaaGreatDoor.Q
open Go.RowKit Go.Proofs.YtmhobbdedmjmnaaGreatDoorW.PrintWords Go.Proofs.YtmhobbdedmjmnaaGreatDoorW.PrintLast Go.Proofs.YtmhobbdedmjmnaaGreatDoorW.PrintMore
attribute [local go_sem] max2_int min2_int max_two min_two max_three min_three max_four min_four   -- for this text's walks alone
set_option linter.unusedVariables false
set_option linter.unusedSimpArgs false
attribute [local go_sem high] eqA61
def rows_Distinct.f (l0 : List (List V)) : Option (List (List V) × Int) := if smallE [l0] = 0 then (if okR l0 = true then some (oneR l0, 0) else none) else some ([], smallE [l0])
set_option maxHeartbeats 2000000 in
theorem rows_Distinct.calls (A0 : Option Addr) (c0 : Nat) (l0 : List (List V)) (r1 : List (List V)) (r2 : Int) (w : World) (hr0 : Kd.C (Kd.slice 61 k61) w A0 l0.length l0) (hc0 : l0.length ≤ c0) (h : rows_Distinct.f l0 = some (r1, r2)) :
    Calls Tryz.prog 40 #[.slice A0 l0.length c0] w fun e w' => ∃ v0_ : Value, e = .returned (.tuple #[v0_, .int .i64 r2]) ∧ Kd.S (Kd.slice 61 k61) 40 w' w.heap.size (fun _ => True) v0_ r1 ∧ Below w.heap.size w w' := by
  unfold rows_Distinct.f at h
  have HS := Aside0.mk (fun W hb => small_one A0 c0 l0 w W hr0 hc0 hb)
  by_cases hs : smallE [l0] = 0
  · rw [if_pos hs] at h
    by_cases hk : okR l0 = true
    case neg => rw [if_neg hk] at h; cases h
    rw [if_pos hk] at h
    simp only [Option.some.injEq, Prod.mk.injEq] at h
    obtain ⟨rfl, rfl⟩ := h
    rw [hs] at HS
    have HI := Aside0.mk (fun W (hb : Below w.heap.size w W) => rows_Once.calls A0 c0 l0 (oneR l0) W (Kd.C_below hr0 hb) hc0 (by unfold rows_Once.f; rw [if_pos hk]))
    clear hr0 hc0 hs hk
    generalize oneR l0 = res at HI ⊢
    generalize l0.length = n0 at HS HI ⊢
    go_enter Tryz.func40, Tryz.ntmps40
    go_wp2_with (first
      | (go_at_call 52; refine (HS.out _ (Below.refl _ _)).mono ?_; rintro e w1 ⟨rfl, hb1⟩; have HB1 := Aside0.mk hb1; clear hb1)
      | (go_at_call 74; refine (HI.out _ HB1.out).mono ?_; rintro e w2 ⟨v2, rfl, hv2, hb2⟩; have HV2 := Aside0.mk (Kd.S_lower hv2 HB1.out.size); have HB2 := Aside0.mk (below_step HB1.out hb2); clear hv2 hb2))
    go_ret2
    exact ⟨_, rfl, HV2.out, HB2.out⟩
  · rw [if_neg hs] at h
    simp only [Option.some.injEq, Prod.mk.injEq] at h
    obtain ⟨rfl, rfl⟩ := h
    have hs2 : (smallE [l0] != 0) = true := by simpa using hs
    clear hr0 hc0 hs
    generalize smallE [l0] = x at HS hs2 ⊢
    generalize l0.length = n0 at HS ⊢
    go_enter Tryz.func40, Tryz.ntmps40
    go_wp2_with (go_at_call 52; refine (HS.out _ (Below.refl _ _)).mono ?_; rintro e w1 ⟨rfl, hb1⟩)
    go_ret2
    exact ⟨_, rfl, Kd.S_nil _ _ _ _ _, hb1⟩
-- NOT PRINTED: function 8 (tacticianlaw02_RowsOwn)
def api_Value_76.l0 : Nat → List (S61) → List (S61) → Int → Int → Option (Bool)
  | 0, _, _, _, _ => none
  | k + 1, x0, x1, x12, x13 => if x13 < x12 then (if 0 ≤ x13 then (if x13 < (x0.length : Int) then (if x13 < (x1.length : Int) then (if (!(((rd_T61 x0 x13).f0) == ((rd_T61 x1 x13).f0)) || (!(((rd_T61 x0 x13).f1) == ((rd_T61 x1 x13).f1)) || (!((((rd_T61 x0 x13).f2).toList) == (((rd_T61 x1 x13).f2).toList))))) = true then (some false) else (api_Value_76.l0 k x0 x1 x12 (wrap64 (x13 + 1)))) else (none)) else (none)) else (none)) else (some true)
def api_Value_76.f (k : Nat) (l0 : List (S61)) (l1 : List (S61)) : Option (Bool) := if (l0.length : Int) = (l1.length : Int) then (api_Value_76.l0 k l0 l1 (l0.length : Int) 0) else (some false)
set_option maxHeartbeats 8000000 in
set_option maxRecDepth 100000 in
theorem api_Value_76.calls (k : Nat) (A0 : Option Addr) (c0 : Nat) (l0 : List (S61)) (A1 : Option Addr) (c1 : Nat) (l1 : List (S61)) (r : Bool) (w : World) (hr0 : Kd.C k61 w A0 l0.length l0) (hc0 : l0.length ≤ c0) (hr1 : Kd.C k61 w A1 l1.length l1) (hc1 : l1.length ≤ c1) (h : api_Value_76.f k l0 l1 = some r) :
    Calls Tryz.prog 76 #[.slice A0 l0.length c0, .slice A1 l1.length c1] w fun e w' => e = .returned (.bool r) ∧ Drawn0 w w' := by
  have hu61 := Tryz.underlying61
  have HR0 := Aside0.mk hr0
  have HC0 := Aside0.mk hc0
  clear hr0 hc0
  have HR1 := Aside0.mk hr1
  have HC1 := Aside0.mk hc1
  clear hr1 hc1
  have H : (if (l0.length : Int) = (l1.length : Int) then (api_Value_76.l0 k l0 l1 (l0.length : Int) 0) else (some false)) = some r := h
  clear h
  by_cases c3 : (l0.length : Int) = (l1.length : Int)
  · rw [if_pos c3] at H
    have c3b0 : ((l0.length : Int) == (l1.length : Int)) = true := beq_iff_eq.mpr c3
    have c3b1 : ((l0.length : Int) != (l1.length : Int)) = false := bne_eq_false_iff_eq.mpr c3
    have c3b2 : (l0.length == l1.length) = true := by first | simpa using c3 | (simp at c3 ⊢; omega)
    clear c3
    have H' := Aside0.mk H
    clear H
    go_enter Tryz.func76, Tryz.ntmps76
    go_wp2
    repeat (go_quiet (fail); try go_wp2)
    go_loopg [13] k (fun kq v13 w' => ∃ (x13_1 : Int), v13 = .int .i64 x13_1 ∧ Aside0 (api_Value_76.l0 kq l0 l1 (l0.length : Int) x13_1 = some r) ∧ Aside0 (kq ≤ k) ∧ Drawn0 w w')
    case atStart => exact ⟨(0), (by first | rfl | (simp; done) | (simp [*]; done)), H', ⟨Nat.le_refl _⟩, by repeat (first | exact Drawn0.refl _ | apply Drawn0.step)⟩
    case round =>
      clear H'
      try clear c1
      try clear p2
      try clear c3
      try clear c3b0
      try clear c3b1
      try clear c3b2
      obtain ⟨x13_1, rfl, HA, HK1, ⟨m1, rfl⟩⟩ := hrel
      cases gk with
      | zero => exact absurd HA.out (by simp [api_Value_76.l0])
      | succ k1 =>
        have H := HA.out
        clear HA
        simp only [api_Value_76.l0] at H
        by_cases c4 : x13_1 < (l0.length : Int)
        · rw [if_pos c4] at H
          have c4b0 : decide (x13_1 < (l0.length : Int)) = true := decide_eq_true c4
          clear c4
          by_cases c5 : 0 ≤ x13_1
          · rw [if_pos c5] at H
            have c5b0 : decide (0 ≤ x13_1) = true := decide_eq_true c5
            clear c5
            by_cases c6 : x13_1 < (l0.length : Int)
            · rw [if_pos c6] at H
              have c6b0 : decide (x13_1 < (l0.length : Int)) = true := decide_eq_true c6
              clear c6
              by_cases c7 : x13_1 < (l1.length : Int)
              · rw [if_pos c7] at H
                have c7b0 : decide (x13_1 < (l1.length : Int)) = true := decide_eq_true c7
                clear c7
                by_cases c8 : (!(((rd_T61 l0 x13_1).f0) == ((rd_T61 l1 x13_1).f0)) || (!(((rd_T61 l0 x13_1).f1) == ((rd_T61 l1 x13_1).f1)) || (!((((rd_T61 l0 x13_1).f2).toList) == (((rd_T61 l1 x13_1).f2).toList))))) = true
                · rw [if_pos c8] at H
                  have c8b0 : (!(((rd_T61 l0 x13_1).f0) == ((rd_T61 l1 x13_1).f0)) || (!(((rd_T61 l0 x13_1).f1) == ((rd_T61 l1 x13_1).f1)) || (!((((rd_T61 l0 x13_1).f2).toList) == (((rd_T61 l1 x13_1).f2).toList))))) = true := c8
                  clear c8
                  obtain rfl := Option.some.inj H
                  have p541 : 0 ≤ (x13_1 : Int) := of_decide_eq_true (by first | (with_reducible assumption) | assumption)
                  have q541 : x13_1 < (l0.length : Int) := of_decide_eq_true (by first | (with_reducible assumption) | assumption)
                  obtain ⟨ad541, e541, hx541_0, hx541_1, hx541_2⟩ := at_T61 HR0.out x13_1 p541 q541
                  cases e541
                  replace p541 := eq_true p541
                  replace q541 := eq_true q541
                  have p542 : 0 ≤ (x13_1 : Int) := of_decide_eq_true (by first | (with_reducible assumption) | assumption)
                  have q542 : x13_1 < (l1.length : Int) := of_decide_eq_true (by first | (with_reducible assumption) | assumption)
                  obtain ⟨ad542, e542, hx542_0, hx542_1, hx542_2⟩ := at_T61 HR1.out x13_1 p542 q542
                  cases e542
                  replace p542 := eq_true p542
                  replace q542 := eq_true q542
                  go_wp2
                  repeat (go_quiet (fail); try go_wp2)
                  go_ret
                  exact ⟨by first | rfl | (simp; done) | (simp [*]; done), by repeat (first | exact Drawn0.refl _ | apply Drawn0.step)⟩
                · rw [if_neg c8] at H
                  have c8b0 : (!(((rd_T61 l0 x13_1).f0) == ((rd_T61 l1 x13_1).f0)) || (!(((rd_T61 l0 x13_1).f1) == ((rd_T61 l1 x13_1).f1)) || (!((((rd_T61 l0 x13_1).f2).toList) == (((rd_T61 l1 x13_1).f2).toList))))) = false := by simpa using c8
                  clear c8
                  have H' := Aside0.mk H
                  clear H
                  have p541 : 0 ≤ (x13_1 : Int) := of_decide_eq_true (by first | (with_reducible assumption) | assumption)
                  have q541 : x13_1 < (l0.length : Int) := of_decide_eq_true (by first | (with_reducible assumption) | assumption)
                  obtain ⟨ad541, e541, hx541_0, hx541_1, hx541_2⟩ := at_T61 HR0.out x13_1 p541 q541
                  cases e541
                  replace p541 := eq_true p541
                  replace q541 := eq_true q541
                  have p542 : 0 ≤ (x13_1 : Int) := of_decide_eq_true (by first | (with_reducible assumption) | assumption)
                  have q542 : x13_1 < (l1.length : Int) := of_decide_eq_true (by first | (with_reducible assumption) | assumption)
                  obtain ⟨ad542, e542, hx542_0, hx542_1, hx542_2⟩ := at_T61 HR1.out x13_1 p542 q542
                  cases e542
                  replace p542 := eq_true p542
                  replace q542 := eq_true q542
                  go_wp2
                  repeat (go_quiet (fail); try go_wp2)
                  go_roundg k1
                  case measure => have := HK1.out; omega
                  case rel => exact ⟨(wrap64 (x13_1 + 1)), (by first | rfl | (simp; done) | (simp [*]; done)), H', ⟨by have := HK1.out; omega⟩, by repeat (first | exact Drawn0.refl _ | apply Drawn0.step)⟩
              · rw [if_neg c7] at H
                exact absurd H (by simp)
            · rw [if_neg c6] at H
              exact absurd H (by simp)
          · rw [if_neg c5] at H
            exact absurd H (by simp)
        · rw [if_neg c4] at H
          have c4b0 : decide (x13_1 < (l0.length : Int)) = false := decide_eq_false c4
          clear c4
          obtain rfl := Option.some.inj H
          go_wp2
          repeat (go_quiet (fail); try go_wp2)
          go_ret
          exact ⟨by first | rfl | (simp; done) | (simp [*]; done), by repeat (first | exact Drawn0.refl _ | apply Drawn0.step)⟩
  · rw [if_neg c3] at H
    have c3b0 : ((l0.length : Int) == (l1.length : Int)) = false := beq_eq_false_iff_ne.mpr c3
    have c3b1 : ((l0.length : Int) != (l1.length : Int)) = true := bne_iff_ne.mpr c3
    have c3b2 : (l0.length == l1.length) = false := by first | simpa using c3 | (simp at c3 ⊢; omega)
    obtain rfl := Option.some.inj H
    go_enter Tryz.func76, Tryz.ntmps76
    go_wp2
    repeat (go_quiet (fail); try go_wp2)
    go_ret
    exact ⟨by first | rfl | (simp; done) | (simp [*]; done), by repeat (first | exact Drawn0.refl _ | apply Drawn0.step)⟩
theorem dec_cons {α : Type} [DecidableEq α] (x y : α) (l r : List α) : decide (x :: l = y :: r) = (decide (x = y) && decide (l = r)) := by
  by_cases e : x = y
  · by_cases e2 : l = r
    · subst e e2; simp
    · simp [e, e2]
  · simp [e]
theorem v_ne (x y : V) : (!(x.f0 == y.f0) || (!(x.f1 == y.f1) || !(x.f2.toList == y.f2.toList))) = !decide (x = y) := by
  by_cases h : x = y
  · subst h; simp
  · rw [decide_eq_false h, Bool.not_false]
    obtain ⟨a, b, c⟩ := x
    obtain ⟨a', b', c'⟩ := y
    by_cases h0 : a = a'
    · by_cases h1 : b = b'
      · have h2 : ¬ c.toList = c'.toList := fun e => h (by
          rw [ByteArray.toList_eq, ByteArray.toList_eq] at e
          rw [h0, h1, ba_ext e])
        simp [h2]
      · simp [h1]
    · simp [h0]
theorem eqRow_l0 (a b : List V) (hl : a.length = b.length) (hn : a.length ≤ 9223372036854775807) : ∀ (d i k : Nat), i + d = a.length → d < k →
    api_Value_76.l0 k a b (a.length : Int) (i : Int) = some (decide (a.drop i = b.drop i)) := by
  intro d
  induction d with
  | zero =>
    intro i k hi hk
    obtain ⟨k, rfl⟩ : ∃ m, k = m + 1 := ⟨k - 1, by omega⟩
    rw [api_Value_76.l0, if_neg (by omega), List.drop_of_length_le (by omega), List.drop_of_length_le (by omega)]
    rfl
  | succ d ih =>
    intro i k hi hk
    obtain ⟨k, rfl⟩ : ∃ m, k = m + 1 := ⟨k - 1, by omega⟩
    have h1 : i < a.length := by omega
    have h2 : i < b.length := by omega
    rw [api_Value_76.l0, if_pos (by omega), if_pos (by omega), if_pos (by omega), if_pos (by omega), rd_at a i h1, rd_at b i h2, v_ne, List.drop_eq_getElem_cons h1, List.drop_eq_getElem_cons h2]
    by_cases h : a[i] = b[i]
    · rw [decide_eq_true h, Bool.not_true, if_neg (by decide), wrap_small (n := (i : Int) + 1) (by omega) (by omega), show ((i : Int) + 1) = ((i + 1 : Nat) : Int) by omega, ih (i + 1) k (by omega) (by omega), dec_cons, decide_eq_true h, Bool.true_and]
    · rw [decide_eq_false h, Bool.not_false, if_pos rfl, dec_cons, decide_eq_false h, Bool.false_and]
def api_Value_76_s.f (l0 : List V) (l1 : List V) : Option Bool := some (decide (l0 = l1))
theorem api_Value_76_s.calls (A0 : Option Addr) (c0 : Nat) (l0 : List V) (A1 : Option Addr) (c1 : Nat) (l1 : List V) (r : Bool) (w : World) (hr0 : Kd.C k61 w A0 l0.length l0) (hc0 : l0.length ≤ c0) (hr1 : Kd.C k61 w A1 l1.length l1) (hc1 : l1.length ≤ c1) (h : api_Value_76_s.f l0 l1 = some r) :
    Calls Tryz.prog 76 #[.slice A0 l0.length c0, .slice A1 l1.length c1] w fun e w' => e = .returned (.bool r) ∧ Drawn0 w w' := by
  refine api_Value_76.calls (l0.length + 1) A0 c0 l0 A1 c1 l1 r w hr0 hc0 hr1 hc1 ?_
  rw [← h]
  unfold api_Value_76.f api_Value_76_s.f
  by_cases e : l0.length = l1.length
  · rw [if_pos (by omega)]
    exact eqRow_l0 l0 l1 e hr0.2.1 l0.length 0 (l0.length + 1) (by omega) (by omega)
  · rw [if_neg (by omega), decide_eq_false fun e' => e (by rw [e'])]
theorem row_cell {w : World} {A : Option Addr} {l : List (List V)} (h : Kd.C (Kd.slice 61 k61) w A l.length l) (k : Nat) (hk : k < l.length) :
    ∃ ad A1 c1, A = some ad ∧ w.cell? (ad.add k) = some (.slice A1 l[k].length c1) ∧ l[k].length ≤ c1 ∧ Kd.C k61 w A1 l[k].length l[k] := by
  obtain ⟨ad, e1, hcs⟩ := h.2.2 (by omega)
  obtain ⟨cs, hcs1, ⟨A1, c1, rfl, hle1, hC1⟩, hcs3⟩ := hcs k l[k] (List.getElem?_eq_getElem hk)
  refine ⟨ad, A1, c1, e1, ?_, hle1, hC1⟩
  have h9 := hcs3 0 _ rfl
  rw [show k * (Kd.slice 61 k61).sz + 0 = k from Nat.mul_one k] at h9
  exact h9
set_option maxRecDepth 100000 in
set_option maxHeartbeats 2000000 in
theorem eqFuncR.calls (g : Nat) (lb : Array Value) (eg : ∀ args w, (callFunc g args).run Tryz.prog w = .ok (.enter g args) w) (A0 A1 : Option Addr) (c0 c1 : Nat) (l0 l1 : List (List V)) (w : World)
    (hr0 : Kd.C (Kd.slice 61 k61) w A0 l0.length l0) (hr1 : Kd.C (Kd.slice 61 k61) w A1 l1.length l1) (hlen : l0.length ≤ 4611686018427387904)
    (hp : ∀ (x y : List V) (A B : Option Addr) (c d : Nat) (W : World), x.length ≤ c → Kd.C k61 W A x.length x → y.length ≤ d → Kd.C k61 W B y.length y →
      Calls Tryz.prog g (#[.slice A x.length c, .slice B y.length d] ++ lb) W fun e w' => e = .returned (.bool (decide (x = y))) ∧ Below W.heap.size W w') :
    Calls Tryz.prog 114 #[.slice A0 l0.length c0, .slice A1 l1.length c1, .func (.func g) #[] lb] w fun e w' => e = .returned (.bool (decide (l0 = l1))) ∧ Below w.heap.size w w' := by
  by_cases hl : l0.length = l1.length
  case neg =>
    have hz : ((l0.length : Int) != (l1.length : Int)) = true := bne_iff_ne.mpr (by omega)
    have hd : decide (l0 = l1) = false := decide_eq_false fun e => hl (by rw [e])
    rw [hd]
    clear hr0 hr1 hp hlen hd hl
    generalize l0.length = n at *
    generalize l1.length = m at *
    go_enter Tryz.func114, Tryz.ntmps114
    go_wp2
    go_ret
    exact ⟨rfl, Below.refl _ _⟩
  have HR0 := Aside0.mk hr0
  have HR1 := Aside0.mk hr1
  have HP := Aside0.mk hp
  have HL := Aside0.mk hl
  have HB := Aside0.mk (Below.refl w.heap.size w)
  rw [← hl]
  clear hr0 hr1 hp hl
  obtain ⟨n, hn⟩ : ∃ n, n = l0.length := ⟨_, rfl⟩
  rw [← hn]
  have hle : n ≤ 4611686018427387904 := by omega
  have HN := Aside0.mk hn
  clear hn hlen
  have hz : ((n : Int) != (n : Int)) = false := by simp
  go_enter Tryz.func114, Tryz.ntmps114
  go_wp2
  go_loopg [7, 8, 9, 17] n (fun gg _ _ _ s17 wr => ∃ kk : Nat, kk ≤ n ∧ n - kk ≤ gg ∧ s17 = .int .i64 kk ∧ Aside0 (Below w.heap.size w wr) ∧ Aside0 (decide (l0 = l1) = decide (l0.drop kk = l1.drop kk)))
  case atStart => exact ⟨0, Nat.zero_le _, by omega, rfl, HB, ⟨rfl⟩⟩
  case round =>
    clear HB
    obtain ⟨kk, hkk, hg, rfl, HB, HA⟩ := hrel
    by_cases hlt : kk < n
    · have hltz : (kk : Int) < (n : Int) := by omega
      have h0 : kk < l0.length := by have := HN.out; omega
      have h1 : kk < l1.length := by have := HN.out; have := HL.out; omega
      obtain ⟨ad, Ax, cx, rfl, hx0, hlx, hCx⟩ := row_cell HR0.out kk h0
      obtain ⟨bd, Ay, cy, rfl, hy0, hly, hCy⟩ := row_cell HR1.out kk h1
      replace hx0 := (HB.out.cell (World.block_lt_of_cell? w _ hx0)).trans hx0
      replace hy0 := (HB.out.cell (World.block_lt_of_cell? w _ hy0)).trans hy0
      have hcall := HP.out l0[kk] l1[kk] Ax Ay cx cy wr hlx (Kd.C_below hCx HB.out) hly (Kd.C_below hCy HB.out)
      have HE : Aside0 (decide (l0 = l1) = (decide (l0[kk] = l1[kk]) && decide (l0.drop (kk + 1) = l1.drop (kk + 1)))) := ⟨by
        rw [HA.out, List.drop_eq_getElem_cons h0, List.drop_eq_getElem_cons h1, dec_cons]⟩
      clear hlx hly hCx hCy
      generalize decide (l0[kk] = l1[kk]) = q at hcall HE
      generalize l0[kk].length = xlen at hx0 hcall
      generalize l1[kk].length = ylen at hy0 hcall
      clear h0 h1
      have HC := Aside0.mk hcall
      clear hcall HA
      cases q with
      | false =>
        go_wp2_with (go_at_fn g; refine HC.out.mono ?_; rintro e w' ⟨rfl, hb'⟩)
        go_ret
        exact ⟨by rw [HE.out]; rfl, HB.out.trans (hb'.mono HB.out.size)⟩
      | true =>
        go_wp2_with (go_at_fn g; refine HC.out.mono ?_; rintro e w' ⟨rfl, hb'⟩)
        go_roundg (n - (kk + 1))
        case measure => omega
        case rel => exact ⟨kk + 1, by omega, by omega, by go_num, ⟨HB.out.trans (hb'.mono HB.out.size)⟩, ⟨by rw [HE.out, Bool.true_and]⟩⟩
    · have hltz : decide (kk < n) = false := by simpa using hlt
      have HE : Aside0 (decide (l0 = l1) = true) := ⟨by
        rw [HA.out, List.drop_of_length_le (by have := HN.out; omega), List.drop_of_length_le (by have := HN.out; have := HL.out; omega)]
        rfl⟩
      clear hlt HA
      go_wp2
      go_ret
      exact ⟨by rw [HE.out]; rfl, HB.out⟩
theorem alikeEq.calls (x y : List V) (A B : Option Addr) (c d : Nat) (W : World) (hc : x.length ≤ c) (hx : Kd.C k61 W A x.length x) (hd : y.length ≤ d) (hy : Kd.C k61 W B y.length y) :
    Calls Tryz.prog 115 (#[.slice A x.length c, .slice B y.length d] ++ #[]) W fun e w' => e = .returned (.bool (decide (x = y))) ∧ Below W.heap.size W w' := by
  have HC := Aside0.mk (api_Value_76_s.calls A c x B d y (decide (x = y)) W hx hc hy hd rfl)
  clear hc hx hd hy
  generalize decide (x = y) = q at HC ⊢
  generalize x.length = n at HC ⊢
  generalize y.length = m at HC ⊢
  go_enter Tryz.func115, Tryz.ntmps115
  go_wp2_with (go_at_call 76; refine HC.out.mono ?_; rintro e w' ⟨rfl, hb'⟩)
  go_ret
  obtain ⟨q, rfl⟩ := hb'.out
  exact ⟨rfl, yN (Below.refl _ _) q⟩
def rows_Alike.f (l0 : List (List V)) (l1 : List (List V)) : Option Bool := if l0.length ≤ 4611686018427387904 then some (decide (l0 = l1)) else none
theorem rows_Alike.calls (A0 : Option Addr) (c0 : Nat) (l0 : List (List V)) (A1 : Option Addr) (c1 : Nat) (l1 : List (List V)) (r : Bool) (w : World) (hr0 : Kd.C (Kd.slice 61 k61) w A0 l0.length l0) (_hc0 : l0.length ≤ c0) (hr1 : Kd.C (Kd.slice 61 k61) w A1 l1.length l1) (_hc1 : l1.length ≤ c1) (h : rows_Alike.f l0 l1 = some r) :
  Calls Tryz.prog 75 #[.slice A0 l0.length c0, .slice A1 l1.length c1] w fun e w' => e = .returned (.bool r) ∧ Below w.heap.size w w' := by
 unfold rows_Alike.f at h
 by_cases hs : l0.length ≤ 4611686018427387904
 case neg => rw [if_neg hs] at h; cases h
 rw [if_pos hs] at h
 obtain rfl := Option.some.inj h
 have eg : ∀ args w, (callFunc 115 args).run Tryz.prog w = .ok (.enter 115 args) w := enters_of Tryz.func115 (by kernel_rfl) rfl
 have HC := Aside0.mk (eqFuncR.calls 115 #[] eg A0 A1 c0 c1 l0 l1 w hr0 hr1 hs fun x y A B c d W hc hx hd hy => alikeEq.calls x y A B c d W hc hx hd hy)
 clear hr0 hr1 hs h eg _hc0 _hc1
 generalize decide (l0 = l1) = q at HC ⊢
 generalize l0.length = n at HC ⊢
 generalize l1.length = m at HC ⊢
 go_enter Tryz.func75, Tryz.ntmps75
 go_wp2_with (go_at_call 114; refine HC.out.mono ?_; rintro e w' ⟨rfl, hb'⟩)
 go_ret
 exact ⟨rfl, hb'⟩
end Go.Proofs.YtmhobbdedmjmnaaGreatDoor.Q
end
section
/- Each function reached is shown to return what the plain function beside it computes, wherever that is defined (written by a program of ours for this seat). -/
namespace Go.Proofs.YtmhobbdedmjmnaaGreatDoor.Q
open Go.RowKit Go.Proofs.YtmhobbdedmjmnaaGreatDoorW.PrintWords Go.Proofs.YtmhobbdedmjmnaaGreatDoorW.PrintLast Go.Proofs.YtmhobbdedmjmnaaGreatDoorW.PrintMore
attribute [local go_sem] max2_int min2_int max_two min_two max_three min_three max_four min_four   -- for this text's walks alone
set_option linter.unusedVariables false
set_option linter.unusedSimpArgs false
def rows_Same.f (l0 : List (List (S61))) (l1 : List (List (S61))) : Option (Bool × Int) := (rows_small.f (([l0, l1] : List (List (List (S61)))))).bind fun t546 => (if t546 = 0 then ((rows_Sorted.f l0).bind fun t547 => ((rows_Sorted.f l1).bind fun t550 => ((rows_Alike.f t547 t550).bind fun t553 => (some (t553, 0))))) else (some (false, t546)))
set_option maxHeartbeats 8000000 in
set_option maxRecDepth 100000 in
theorem rows_Same.calls (P0_ : Nat → Prop) (A0 : Option Addr) (c0 : Nat) (l0 : List (List (S61))) (P1_ : Nat → Prop) (A1 : Option Addr) (c1 : Nat) (l1 : List (List (S61))) (r1 : Bool) (r2 : Int) (w : World) (hs0 : Kd.V (Kd.slice 61 k61) 40 w w.heap.size (fun k_ => P0_ k_) (.slice A0 l0.length c0) l0) (hs1 : Kd.V (Kd.slice 61 k61) 40 w w.heap.size (fun k_ => P1_ k_) (.slice A1 l1.length c1) l1) (h : rows_Same.f l0 l1 = some (r1, r2)) :
    Calls Tryz.prog 42 #[.slice A0 l0.length c0, .slice A1 l1.length c1] w fun e w' => e = .returned (.tuple #[.bool r1, .int .i64 r2]) ∧ Below w.heap.size w w' := by
  have HO0 := Aside0.mk (show Kd.V (Kd.slice 61 k61) 40 w w.heap.size (fun k_ => ((P0_ k_ ∨ P1_ k_) ∨ w.heap.size ≤ k_)) (.slice A0 l0.length c0) l0 from Kd.V_mono hs0 (fun k_ hk => .inl (.inl hk)))
  have HO1 := Aside0.mk (show Kd.V (Kd.slice 61 k61) 40 w w.heap.size (fun k_ => ((P0_ k_ ∨ P1_ k_) ∨ w.heap.size ≤ k_)) (.slice A1 l1.length c1) l1 from Kd.V_mono hs1 (fun k_ hk => .inl (.inr hk)))
  have HB := Aside0.mk (Below.refl w.heap.size w)
  have H : ((rows_small.f (([l0, l1] : List (List (List (S61)))))).bind fun t546 => (if t546 = 0 then ((rows_Sorted.f l0).bind fun t547 => ((rows_Sorted.f l1).bind fun t550 => ((rows_Alike.f t547 t550).bind fun t553 => (some (t553, 0))))) else (some (false, t546)))) = some (r1, r2) := h
  clear h
  obtain ⟨y543, hy543⟩ : ∃ y_ : List (List (List (S61))), y_ = (([l0, l1] : List (List (List (S61))))) := ⟨_, rfl⟩
  replace H : ((rows_small.f y543).bind fun t546 => (if t546 = 0 then ((rows_Sorted.f l0).bind fun t547 => ((rows_Sorted.f l1).bind fun t550 => ((rows_Alike.f t547 t550).bind fun t553 => (some (t553, 0))))) else (some (false, t546)))) = some (r1, r2) := by first | (rw [hy543]; with_reducible exact H) | (have H2_ := (Option.bind_some _ _).symm.trans H; rw [hy543]; with_reducible exact H2_) | (have H2_ := (Option.bind_some _ _).symm.trans H; with_reducible exact H2_) | with_reducible exact H | (rw [hy543]; exact H) | exact H
  have Ny543 := Aside0.mk hy543
  clear hy543
  replace H := Option.bind_eq_some_iff.mp H
  obtain ⟨t546, A30, H⟩ := H
  replace H : (if t546 = 0 then ((rows_Sorted.f l0).bind fun t547 => ((rows_Sorted.f l1).bind fun t550 => ((rows_Alike.f t547 t550).bind fun t553 => (some (t553, 0))))) else (some (false, t546))) = some (r1, r2) := H
  have A3 := Aside0.mk A30
  clear A30
  by_cases c4 : t546 = 0
  · rw [if_pos c4] at H
    have c4b0 : (t546 == 0) = true := beq_iff_eq.mpr c4
    have c4b1 : (t546 != 0) = false := bne_eq_false_iff_eq.mpr c4
    clear c4
    replace H := Option.bind_eq_some_iff.mp H
    obtain ⟨t547, A50, H⟩ := H
    replace H : ((rows_Sorted.f l1).bind fun t550 => ((rows_Alike.f t547 t550).bind fun t553 => (some (t553, 0)))) = some (r1, r2) := H
    have A5 := Aside0.mk A50
    clear A50
    replace H := Option.bind_eq_some_iff.mp H
    obtain ⟨t550, A60, H⟩ := H
    replace H : ((rows_Alike.f t547 t550).bind fun t553 => (some (t553, 0))) = some (r1, r2) := H
    have A6 := Aside0.mk A60
    clear A60
    replace H := Option.bind_eq_some_iff.mp H
    obtain ⟨t553, A70, H⟩ := H
    replace H : (some (t553, 0)) = some (r1, r2) := H
    have A7 := Aside0.mk A70
    clear A70
    simp only [Option.some.injEq, Prod.mk.injEq] at H
    obtain ⟨rfl, rfl⟩ := H
    go_enter Tryz.func42, Tryz.ntmps42
    go_wp2_with (first | ((with_reducible refine gate_dst (N := 9) rfl ?_); refine Kd.N_lit (Kd.slice 40 (Kd.slice 61 k61)) _ 22 ?hg (N' := 9) ?hd (xs := ([l0, l1] : List (List (List (S61))))) (inner := [.slice A0 l0.length c0, .slice A1 l1.length c1]) (ok := (fun k_ => ((P0_ k_ ∨ P1_ k_) ∨ w.heap.size ≤ k_))) (okp := (fun k_ => ((P0_ k_ ∨ P1_ k_) ∨ w.heap.size ≤ k_))) ?hr ?hp (fun _ hk => hk) ((show ∀ k_, w.heap.size ≤ k_ → (fun k_ => ((P0_ k_ ∨ P1_ k_) ∨ w.heap.size ≤ k_)) k_ from fun k_ hk => (.inr (Nat.le_trans (below_size (by repeat (first | (with_reducible first | exact HB.out | apply yA | apply yN | apply yD) | exact HB.out))) hk))) _ (Nat.le_refl _)) (Below.refl _ _) (Nat.le_refl _) (by simp) ?_; (case hd => rfl); (case hg => rfl); (case hr => first | (go_simp; done) | (go_simp; rfl)); (case hp => exact (Reps.one (show Kd.FK (Kd.slice 40 (Kd.slice 61 k61)) _ _ l0 [.slice A0 l0.length c0] from (Kd.FK_slice_mk (Kd.V_reads' (Kd.V_mono (ok' := (fun k_ => ((P0_ k_ ∨ P1_ k_) ∨ w.heap.size ≤ k_))) (HO0.out) (fun k_ hk => hk))).2.1 (Kd.V_F (Kd.V_mono (ok' := (fun k_ => ((P0_ k_ ∨ P1_ k_) ∨ w.heap.size ≤ k_))) (HO0.out) (fun k_ hk => hk))))) (Reps.one (show Kd.FK (Kd.slice 40 (Kd.slice 61 k61)) _ _ l1 [.slice A1 l1.length c1] from (Kd.FK_slice_mk (Kd.V_reads' (Kd.V_mono (ok' := (fun k_ => ((P0_ k_ ∨ P1_ k_) ∨ w.heap.size ≤ k_))) (HO1.out) (fun k_ hk => hk))).2.1 (Kd.V_F (Kd.V_mono (ok' := (fun k_ => ((P0_ k_ ∨ P1_ k_) ∨ w.heap.size ≤ k_))) (HO1.out) (fun k_ hk => hk))))) (Reps.none _ _)))); intro v544 w8 ho9 hb hg_ hnew_; clear hg_ hnew_; (first | rw [← Ny543.out] at ho9 | (simp only [Int.reduceToNat] at ho9; rw [← Ny543.out] at ho9)); have n0_ := Aside0.mk (Kd.V_elder' (by (with_reducible repeat (first | apply Kd.V_alloc | apply Kd.V_drewN | apply Kd.V_drew)); exact HO0.out) (Kd.N_base ho9) hb); have n1_ := Aside0.mk (Kd.V_elder' (by (with_reducible repeat (first | apply Kd.V_alloc | apply Kd.V_drewN | apply Kd.V_drew)); exact HO1.out) (Kd.N_base ho9) hb); have n2_ := Aside0.mk (Kd.N_lower ho9 (below_size (by repeat (first | (with_reducible first | exact HB.out | apply yA | apply yN | apply yD) | exact HB.out)))); have n3_ := Aside0.mk (below_step (by repeat (first | (with_reducible first | exact HB.out | apply yA | apply yN | apply yD) | exact HB.out)) hb); clear HO0; clear HO1; clear HB; have HO0 := n0_; have HO1 := n1_; have HO545 := n2_; have HB := n3_; clear n0_ n1_ n2_ n3_; clear hb ho9; obtain ⟨Ao10, co10, eo10⟩ := Kd.N_slice HO545.out; subst eo10) | ((with_reducible refine gate_callee (f := 52) rfl ?_); refine goesL_ (some 10) rfl rfl Tryz.func52 (by kernel_rfl) rfl #[.slice Ao10 y543.length co10] rfl (by (try simp only [List.map_toArray, List.map_cons, List.map_nil]); first | done | rfl | (simp only [List.length_drop, List.length_take]; rfl)) ?_; (with_reducible refine (rows_small.calls _ _ y543 t546 _ ?side1 ?side2 A3.out).mono ?_); (case side1 => repeat (first | exact (Kd.N_reads' HO545.out).2.2 | (with_reducible refine Kd.C_alloc ?_ _) | (with_reducible refine Kd.C_drewN ?_ _) | (with_reducible refine Kd.C_drew ?_))); (case side2 => exact (Kd.N_reads' HO545.out).2.1); rintro e w11 ⟨rfl, hb⟩; refine ⟨_, rfl, ?_⟩; have n0_ := Aside0.mk (Kd.V_below (by (with_reducible repeat (first | apply Kd.V_alloc | apply Kd.V_drewN | apply Kd.V_drew)); exact HO0.out) hb); have n1_ := Aside0.mk (Kd.V_below (by (with_reducible repeat (first | apply Kd.V_alloc | apply Kd.V_drewN | apply Kd.V_drew)); exact HO1.out) hb); have n2_ := Aside0.mk (Kd.N_below (by (with_reducible repeat (first | apply Kd.N_alloc | apply Kd.N_drewN | apply Kd.N_drew)); exact HO545.out) hb); have n3_ := Aside0.mk (below_step (by repeat (first | (with_reducible first | exact HB.out | apply yA | apply yN | apply yD) | exact HB.out)) hb); clear HO0; clear HO1; clear HO545; clear HB; have HO0 := n0_; have HO1 := n1_; have HO545 := n2_; have HB := n3_; clear n0_ n1_ n2_ n3_; (try clear hb); (try clear hb2); (try clear hk); (try clear hi)) | ((with_reducible refine gate_callee (f := 64) rfl ?_); refine goesL_ (some 15) rfl rfl Tryz.func64 (by kernel_rfl) rfl #[.slice A0 l0.length c0] rfl (by (try simp only [List.map_toArray, List.map_cons, List.map_nil]); first | done | rfl | (simp only [List.length_drop, List.length_take]; rfl)) ?_; (with_reducible refine (rows_Sorted.calls _ _ l0 t547 _ ?side1 ?side2 A5.out).mono ?_); (case side1 => repeat (first | exact (Kd.V_reads' HO0.out).2.2 | (with_reducible refine Kd.C_alloc ?_ _) | (with_reducible refine Kd.C_drewN ?_ _) | (with_reducible refine Kd.C_drew ?_))); (case side2 => exact (Kd.V_reads' HO0.out).2.1); rintro e w12 ⟨v548, rfl, ho0, hb⟩; refine ⟨_, rfl, ?_⟩; have n0_ := Aside0.mk (Kd.V_elder' (by (with_reducible repeat (first | apply Kd.V_alloc | apply Kd.V_drewN | apply Kd.V_drew)); exact HO0.out) (Kd.N_base (Kd.S_N ho0)) hb); have n1_ := Aside0.mk (Kd.V_elder' (by (with_reducible repeat (first | apply Kd.V_alloc | apply Kd.V_drewN | apply Kd.V_drew)); exact HO1.out) (Kd.N_base (Kd.S_N ho0)) hb); have n2_ := Aside0.mk (Kd.N_elder' (by (with_reducible repeat (first | apply Kd.N_alloc | apply Kd.N_drewN | apply Kd.N_drew)); exact HO545.out) (Kd.N_base (Kd.S_N ho0)) hb); have n3_ := Aside0.mk (Kd.N_lower (Kd.N_mono (ok' := fun k_ => ((P0_ k_ ∨ P1_ k_) ∨ w.heap.size ≤ k_) ∧ some k_ ≠ (.slice Ao10 y543.length co10 : Value).ownBlock) (Kd.S_N (Kd.S_bound ho0)) (fun k_ hk_ => ⟨(.inr (Nat.le_trans (below_size (by repeat (first | (with_reducible first | exact HB.out | apply yA | apply yN | apply yD) | exact HB.out))) hk_.2.1)), (Kd.fresh' (Kd.N_lt (by (with_reducible repeat (first | apply Kd.N_alloc | apply Kd.N_drewN | apply Kd.N_drew)); exact HO545.out)) k_ hk_.2.1)⟩)) (below_size (by repeat (first | (with_reducible first | exact HB.out | apply yA | apply yN | apply yD) | exact HB.out)))); have n4_ := Aside0.mk (below_step (by repeat (first | (with_reducible first | exact HB.out | apply yA | apply yN | apply yD) | exact HB.out)) hb); clear HO0; clear HO1; clear HO545; clear HB; have HO0 := n0_; have HO1 := n1_; have HO545 := n2_; have HO549 := n3_; have HB := n4_; clear n0_ n1_ n2_ n3_ n4_; (try clear hb); (try clear hb2); (try clear hk); (try clear hi); (try clear ho0)) | ((with_reducible refine gate_callee (f := 64) rfl ?_); refine goesL_ (some 17) rfl rfl Tryz.func64 (by kernel_rfl) rfl #[.slice A1 l1.length c1] rfl (by (try simp only [List.map_toArray, List.map_cons, List.map_nil]); first | done | rfl | (simp only [List.length_drop, List.length_take]; rfl)) ?_; (with_reducible refine (rows_Sorted.calls _ _ l1 t550 _ ?side1 ?side2 A6.out).mono ?_); (case side1 => repeat (first | exact (Kd.V_reads' HO1.out).2.2 | (with_reducible refine Kd.C_alloc ?_ _) | (with_reducible refine Kd.C_drewN ?_ _) | (with_reducible refine Kd.C_drew ?_))); (case side2 => exact (Kd.V_reads' HO1.out).2.1); rintro e w13 ⟨v551, rfl, ho0, hb⟩; refine ⟨_, rfl, ?_⟩; have n0_ := Aside0.mk (Kd.V_elder' (by (with_reducible repeat (first | apply Kd.V_alloc | apply Kd.V_drewN | apply Kd.V_drew)); exact HO0.out) (Kd.N_base (Kd.S_N ho0)) hb); have n1_ := Aside0.mk (Kd.V_elder' (by (with_reducible repeat (first | apply Kd.V_alloc | apply Kd.V_drewN | apply Kd.V_drew)); exact HO1.out) (Kd.N_base (Kd.S_N ho0)) hb); have n2_ := Aside0.mk (Kd.N_elder' (by (with_reducible repeat (first | apply Kd.N_alloc | apply Kd.N_drewN | apply Kd.N_drew)); exact HO545.out) (Kd.N_base (Kd.S_N ho0)) hb); have n3_ := Aside0.mk (Kd.N_elder' (by (with_reducible repeat (first | apply Kd.N_alloc | apply Kd.N_drewN | apply Kd.N_drew)); exact HO549.out) (Kd.N_base (Kd.S_N ho0)) hb); have n4_ := Aside0.mk (Kd.N_lower (Kd.N_mono (ok' := fun k_ => ((P0_ k_ ∨ P1_ k_) ∨ w.heap.size ≤ k_) ∧ some k_ ≠ (.slice Ao10 y543.length co10 : Value).ownBlock ∧ some k_ ≠ (v548 : Value).ownBlock) (Kd.S_N (Kd.S_bound ho0)) (fun k_ hk_ => ⟨(.inr (Nat.le_trans (below_size (by repeat (first | (with_reducible first | exact HB.out | apply yA | apply yN | apply yD) | exact HB.out))) hk_.2.1)), (Kd.fresh' (Kd.N_lt (by (with_reducible repeat (first | apply Kd.N_alloc | apply Kd.N_drewN | apply Kd.N_drew)); exact HO545.out)) k_ hk_.2.1), (Kd.fresh' (Kd.N_lt (by (with_reducible repeat (first | apply Kd.N_alloc | apply Kd.N_drewN | apply Kd.N_drew)); exact HO549.out)) k_ hk_.2.1)⟩)) (below_size (by repeat (first | (with_reducible first | exact HB.out | apply yA | apply yN | apply yD) | exact HB.out)))); have n5_ := Aside0.mk (below_step (by repeat (first | (with_reducible first | exact HB.out | apply yA | apply yN | apply yD) | exact HB.out)) hb); clear HO0; clear HO1; clear HO545; clear HO549; clear HB; have HO0 := n0_; have HO1 := n1_; have HO545 := n2_; have HO549 := n3_; have HO552 := n4_; have HB := n5_; clear n0_ n1_ n2_ n3_ n4_ n5_; (try clear hb); (try clear hb2); (try clear hk); (try clear hi); (try clear ho0); obtain ⟨Ao14, co14, eo14⟩ := Kd.N_slice HO549.out; subst eo14; obtain ⟨Ao15, co15, eo15⟩ := Kd.N_slice HO552.out; subst eo15) | ((with_reducible refine gate_callee (f := 75) rfl ?_); refine goesL_ (some 18) rfl rfl Tryz.func75 (by kernel_rfl) rfl #[.slice Ao14 t547.length co14, .slice Ao15 t550.length co15] rfl (by (try simp only [List.map_toArray, List.map_cons, List.map_nil]); first | done | rfl | (simp only [List.length_drop, List.length_take]; rfl)) ?_; (with_reducible refine (rows_Alike.calls _ _ t547 _ _ t550 t553 _ ?side1 ?side2 ?side3 ?side4 A7.out).mono ?_); (case side1 => repeat (first | exact (Kd.N_reads' HO549.out).2.2 | (with_reducible refine Kd.C_alloc ?_ _) | (with_reducible refine Kd.C_drewN ?_ _) | (with_reducible refine Kd.C_drew ?_))); (case side2 => exact (Kd.N_reads' HO549.out).2.1); (case side3 => repeat (first | exact (Kd.N_reads' HO552.out).2.2 | (with_reducible refine Kd.C_alloc ?_ _) | (with_reducible refine Kd.C_drewN ?_ _) | (with_reducible refine Kd.C_drew ?_))); (case side4 => exact (Kd.N_reads' HO552.out).2.1); rintro e w16 ⟨rfl, hb⟩; refine ⟨_, rfl, ?_⟩; have n0_ := Aside0.mk (Kd.V_below (by (with_reducible repeat (first | apply Kd.V_alloc | apply Kd.V_drewN | apply Kd.V_drew)); exact HO0.out) hb); have n1_ := Aside0.mk (Kd.V_below (by (with_reducible repeat (first | apply Kd.V_alloc | apply Kd.V_drewN | apply Kd.V_drew)); exact HO1.out) hb); have n2_ := Aside0.mk (Kd.N_below (by (with_reducible repeat (first | apply Kd.N_alloc | apply Kd.N_drewN | apply Kd.N_drew)); exact HO545.out) hb); have n3_ := Aside0.mk (Kd.N_below (by (with_reducible repeat (first | apply Kd.N_alloc | apply Kd.N_drewN | apply Kd.N_drew)); exact HO549.out) hb); have n4_ := Aside0.mk (Kd.N_below (by (with_reducible repeat (first | apply Kd.N_alloc | apply Kd.N_drewN | apply Kd.N_drew)); exact HO552.out) hb); have n5_ := Aside0.mk (below_step (by repeat (first | (with_reducible first | exact HB.out | apply yA | apply yN | apply yD) | exact HB.out)) hb); clear HO0; clear HO1; clear HO545; clear HO549; clear HO552; clear HB; have HO0 := n0_; have HO1 := n1_; have HO545 := n2_; have HO549 := n3_; have HO552 := n4_; have HB := n5_; clear n0_ n1_ n2_ n3_ n4_ n5_; (try clear hb); (try clear hb2); (try clear hk); (try clear hi)))
    go_ret2
    exact ⟨by first | rfl | (simp [errW_none, errW_some] <;> rfl) | (simp [*, errW_none, errW_some] <;> rfl), by repeat (first | (with_reducible first | exact HB.out | apply yA | apply yN | apply yD) | exact HB.out)⟩
  · rw [if_neg c4] at H
    have c4b0 : (t546 == 0) = false := beq_eq_false_iff_ne.mpr c4
    have c4b1 : (t546 != 0) = true := bne_iff_ne.mpr c4
    simp only [Option.some.injEq, Prod.mk.injEq] at H
    obtain ⟨rfl, rfl⟩ := H
    go_enter Tryz.func42, Tryz.ntmps42
    go_wp2_with (first | ((with_reducible refine gate_dst (N := 9) rfl ?_); refine Kd.N_lit (Kd.slice 40 (Kd.slice 61 k61)) _ 22 ?hg (N' := 9) ?hd (xs := ([l0, l1] : List (List (List (S61))))) (inner := [.slice A0 l0.length c0, .slice A1 l1.length c1]) (ok := (fun k_ => ((P0_ k_ ∨ P1_ k_) ∨ w.heap.size ≤ k_))) (okp := (fun k_ => ((P0_ k_ ∨ P1_ k_) ∨ w.heap.size ≤ k_))) ?hr ?hp (fun _ hk => hk) ((show ∀ k_, w.heap.size ≤ k_ → (fun k_ => ((P0_ k_ ∨ P1_ k_) ∨ w.heap.size ≤ k_)) k_ from fun k_ hk => (.inr (Nat.le_trans (below_size (by repeat (first | (with_reducible first | exact HB.out | apply yA | apply yN | apply yD) | exact HB.out))) hk))) _ (Nat.le_refl _)) (Below.refl _ _) (Nat.le_refl _) (by simp) ?_; (case hd => rfl); (case hg => rfl); (case hr => first | (go_simp; done) | (go_simp; rfl)); (case hp => exact (Reps.one (show Kd.FK (Kd.slice 40 (Kd.slice 61 k61)) _ _ l0 [.slice A0 l0.length c0] from (Kd.FK_slice_mk (Kd.V_reads' (Kd.V_mono (ok' := (fun k_ => ((P0_ k_ ∨ P1_ k_) ∨ w.heap.size ≤ k_))) (HO0.out) (fun k_ hk => hk))).2.1 (Kd.V_F (Kd.V_mono (ok' := (fun k_ => ((P0_ k_ ∨ P1_ k_) ∨ w.heap.size ≤ k_))) (HO0.out) (fun k_ hk => hk))))) (Reps.one (show Kd.FK (Kd.slice 40 (Kd.slice 61 k61)) _ _ l1 [.slice A1 l1.length c1] from (Kd.FK_slice_mk (Kd.V_reads' (Kd.V_mono (ok' := (fun k_ => ((P0_ k_ ∨ P1_ k_) ∨ w.heap.size ≤ k_))) (HO1.out) (fun k_ hk => hk))).2.1 (Kd.V_F (Kd.V_mono (ok' := (fun k_ => ((P0_ k_ ∨ P1_ k_) ∨ w.heap.size ≤ k_))) (HO1.out) (fun k_ hk => hk))))) (Reps.none _ _)))); intro v544 w17 ho18 hb hg_ hnew_; clear hg_ hnew_; (first | rw [← Ny543.out] at ho18 | (simp only [Int.reduceToNat] at ho18; rw [← Ny543.out] at ho18)); have n0_ := Aside0.mk (Kd.V_elder' (by (with_reducible repeat (first | apply Kd.V_alloc | apply Kd.V_drewN | apply Kd.V_drew)); exact HO0.out) (Kd.N_base ho18) hb); have n1_ := Aside0.mk (Kd.V_elder' (by (with_reducible repeat (first | apply Kd.V_alloc | apply Kd.V_drewN | apply Kd.V_drew)); exact HO1.out) (Kd.N_base ho18) hb); have n2_ := Aside0.mk (Kd.N_lower ho18 (below_size (by repeat (first | (with_reducible first | exact HB.out | apply yA | apply yN | apply yD) | exact HB.out)))); have n3_ := Aside0.mk (below_step (by repeat (first | (with_reducible first | exact HB.out | apply yA | apply yN | apply yD) | exact HB.out)) hb); clear HO0; clear HO1; clear HB; have HO0 := n0_; have HO1 := n1_; have HO545 := n2_; have HB := n3_; clear n0_ n1_ n2_ n3_; clear hb ho18; obtain ⟨Ao19, co19, eo19⟩ := Kd.N_slice HO545.out; subst eo19) | ((with_reducible refine gate_callee (f := 52) rfl ?_); refine goesL_ (some 10) rfl rfl Tryz.func52 (by kernel_rfl) rfl #[.slice Ao19 y543.length co19] rfl (by (try simp only [List.map_toArray, List.map_cons, List.map_nil]); first | done | rfl | (simp only [List.length_drop, List.length_take]; rfl)) ?_; (with_reducible refine (rows_small.calls _ _ y543 t546 _ ?side1 ?side2 A3.out).mono ?_); (case side1 => repeat (first | exact (Kd.N_reads' HO545.out).2.2 | (with_reducible refine Kd.C_alloc ?_ _) | (with_reducible refine Kd.C_drewN ?_ _) | (with_reducible refine Kd.C_drew ?_))); (case side2 => exact (Kd.N_reads' HO545.out).2.1); rintro e w20 ⟨rfl, hb⟩; refine ⟨_, rfl, ?_⟩; have n0_ := Aside0.mk (Kd.V_below (by (with_reducible repeat (first | apply Kd.V_alloc | apply Kd.V_drewN | apply Kd.V_drew)); exact HO0.out) hb); have n1_ := Aside0.mk (Kd.V_below (by (with_reducible repeat (first | apply Kd.V_alloc | apply Kd.V_drewN | apply Kd.V_drew)); exact HO1.out) hb); have n2_ := Aside0.mk (Kd.N_below (by (with_reducible repeat (first | apply Kd.N_alloc | apply Kd.N_drewN | apply Kd.N_drew)); exact HO545.out) hb); have n3_ := Aside0.mk (below_step (by repeat (first | (with_reducible first | exact HB.out | apply yA | apply yN | apply yD) | exact HB.out)) hb); clear HO0; clear HO1; clear HO545; clear HB; have HO0 := n0_; have HO1 := n1_; have HO545 := n2_; have HB := n3_; clear n0_ n1_ n2_ n3_; (try clear hb); (try clear hb2); (try clear hk); (try clear hi)))
    go_ret2
    exact ⟨by first | rfl | (simp [errW_none, errW_some] <;> rfl) | (simp [*, errW_none, errW_some] <;> rfl), by repeat (first | (with_reducible first | exact HB.out | apply yA | apply yN | apply yD) | exact HB.out)⟩
theorem cnt_consT {α : Type} [DecidableEq α] (a : α) (l : List α) (x : α) : cnt (a :: l) x = (if a = x then 1 else 0) + cnt l x := by
  unfold cnt
  rw [List.count_cons]
  by_cases h : a = x
  · rw [if_pos h, if_pos (by simpa using h), Nat.add_comm]
  · rw [if_neg h, if_neg (by simpa using h), Nat.zero_add, Nat.add_zero]
theorem smallE_len {l : List (List V)} (h : smallE [l] = 0) : l.length ≤ 20000 := by
  unfold smallE at h
  simp only [List.any_cons, List.any_nil, Bool.or_false] at h
  by_cases h1 : 20000 < l.length
  · have : largeR l = true := by unfold largeR; rw [decide_eq_true h1, Bool.true_or]
    rw [if_pos this] at h; cases h
  · omega
def rows_Times.f (l0 : List (List V)) (l1 : List V) : Option (Int × Int) := some (if 16 < l1.length then (0, 2) else if smallE [l0] ≠ 0 then (0, smallE [l0]) else if smallE [[l1]] ≠ 0 then (0, smallE [[l1]]) else (((cnt l0 l1 : Nat) : Int), 0))
set_option maxRecDepth 100000 in
set_option maxHeartbeats 4000000 in
theorem rows_Times.calls (A0 : Option Addr) (c0 : Nat) (l0 : List (List V)) (A1 : Option Addr) (c1 : Nat) (l1 : List V) (r1 : Int) (r2 : Int) (w : World) (hr0 : Kd.C (Kd.slice 61 k61) w A0 l0.length l0) (hc0 : l0.length ≤ c0) (hr1 : Kd.C k61 w A1 l1.length l1) (hc1 : l1.length ≤ c1) (h : rows_Times.f l0 l1 = some (r1, r2)) :
    Calls Tryz.prog 43 #[.slice A0 l0.length c0, .slice A1 l1.length c1] w fun e w' => e = .returned (.tuple #[.int .i64 r1, .int .i64 r2]) ∧ Below w.heap.size w w' := by
  replace h := Option.some.inj h
  by_cases h0 : 16 < l1.length
  · rw [if_pos h0] at h
    obtain ⟨rfl, rfl⟩ := Prod.mk.inj h
    have z0 : decide ((16 : Int) < (l1.length : Int)) = true := decide_eq_true (by omega)
    clear hr0 hc0 hr1 hc1 h h0
    generalize l0.length = n at *
    generalize l1.length = m at *
    go_enter Tryz.func43, Tryz.ntmps43
    go_wp2
    go_ret2
    exact ⟨rfl, Below.refl _ _⟩
  rw [if_neg h0] at h
  have z0 : decide ((16 : Int) < (l1.length : Int)) = false := decide_eq_false (by omega)
  have HS := Aside0.mk (small_one A0 c0 l0 w w hr0 hc0 (Below.refl _ _))
  by_cases h1 : smallE [l0] ≠ 0
  · rw [if_pos h1] at h
    obtain ⟨rfl, rfl⟩ := Prod.mk.inj h
    have z1 : (smallE [l0] != 0) = true := by simpa using h1
    clear hr0 hc0 hr1 hc1 h h0 h1
    generalize smallE [l0] = q at *
    generalize l0.length = n at *
    generalize l1.length = m at *
    go_enter Tryz.func43, Tryz.ntmps43
    go_wp2_with (go_at_call 52; refine HS.out.mono ?_; rintro e w1 ⟨rfl, hb1⟩)
    go_ret2
    exact ⟨rfl, hb1⟩
  rw [if_neg h1] at h
  have h1' : smallE [l0] = 0 := by simpa using h1
  have hle := smallE_len h1'
  rw [h1'] at HS
  have HS2 := Aside0.mk (fun W (hb : Below w.heap.size w W) => small_lit1 A1 c1 l1 W (Kd.C_below hr1 hb) hc1)
  by_cases h2 : smallE [[l1]] ≠ 0
  · rw [if_pos h2] at h
    obtain ⟨rfl, rfl⟩ := Prod.mk.inj h
    have z1 : (smallE [[l1]] != 0) = true := by simpa using h2
    clear hr0 hc0 hr1 hc1 h h0 h1 h1' h2 hle
    generalize smallE [[l1]] = q at *
    generalize l0.length = n at *
    generalize l1.length = m at *
    go_enter Tryz.func43, Tryz.ntmps43
    go_wp2_with (first
      | (go_at_call 52; refine HS.out.mono ?_; rintro e w1 ⟨rfl, hb1⟩; clear HS; have HB1 := Aside0.mk hb1; clear hb1)
      | (go_at_call 52; refine (HS2.out _ HB1.out).mono ?_; rintro e w2 ⟨rfl, hb2⟩; have HB2 := Aside0.mk (below_step HB1.out hb2); clear hb2))
    go_ret2
    exact ⟨rfl, HB2.out⟩
  rw [if_neg h2] at h
  have h2' : smallE [[l1]] = 0 := by simpa using h2
  rw [h2'] at HS2
  obtain ⟨rfl, rfl⟩ := Prod.mk.inj h
  have HR0 := Aside0.mk hr0
  have HQ := Aside0.mk (fun (x : List V) A c W (hx : Kd.C k61 W A x.length x) hxc (hb : Below w.heap.size w W) => api_Value_76_s.calls A c x A1 c1 l1 (decide (x = l1)) W hx hxc (Kd.C_below hr1 hb) hc1 rfl)
  obtain ⟨n, hn⟩ : ∃ n, n = l0.length := ⟨_, rfl⟩
  rw [← hn] at HS hle ⊢
  have HN := Aside0.mk hn
  clear hr0 hc0 hr1 hc1 h h0 h1 h1' h2 h2' hn
  generalize l1.length = m at *
  go_enter Tryz.func43, Tryz.ntmps43
  go_wp2_with (first
      | (go_at_call 52; refine HS.out.mono ?_; rintro e w1 ⟨rfl, hb1⟩; clear HS; have HB1 := Aside0.mk hb1; clear hb1)
      | (go_at_call 52; refine (HS2.out _ HB1.out).mono ?_; rintro e w2 ⟨rfl, hb2⟩; have HB2 := Aside0.mk (below_step HB1.out hb2); clear hb2))
  go_loopg [8, 10, 29] n (fun gg s8 _ s29 wr => ∃ (kk cc : Nat), kk ≤ n ∧ cc ≤ kk ∧ n - kk ≤ gg ∧ s8 = .int .i64 cc ∧ s29 = .int .i64 kk ∧ Aside0 (Below w.heap.size w wr) ∧ Aside0 (cnt l0 l1 = cc + cnt (l0.drop kk) l1))
  case atStart => exact ⟨0, 0, Nat.zero_le _, Nat.le_refl _, by omega, rfl, rfl, HB2, ⟨by rw [List.drop_zero, Nat.zero_add]⟩⟩
  case round =>
    clear HB2 HB1 HS2
    obtain ⟨kk, cc, hkk, hcc, hg, rfl, rfl, HB, HA⟩ := hrel
    by_cases hlt : kk < n
    · have hltz : (kk : Int) < (n : Int) := by omega
      have h0 : kk < l0.length := by have := HN.out; omega
      obtain ⟨ad, Ax, cx, rfl, hx0, hlx, hCx⟩ := row_cell HR0.out kk h0
      replace hx0 := (HB.out.cell (World.block_lt_of_cell? w _ hx0)).trans hx0
      have hcall := HQ.out l0[kk] Ax cx wr (Kd.C_below hCx HB.out) hlx HB.out
      have HE : Aside0 (cnt l0 l1 = cc + ((if l0[kk] = l1 then 1 else 0) + cnt (l0.drop (kk + 1)) l1)) := ⟨by
        rw [HA.out, List.drop_eq_getElem_cons h0, cnt_consT]⟩
      have hq : (if l0[kk] = l1 then 1 else 0) = (if decide (l0[kk] = l1) = true then 1 else 0) := by
        by_cases e : l0[kk] = l1
        · simp [e]
        · simp [e]
      rw [hq] at HE
      clear hlx hCx hq HA
      generalize decide (l0[kk] = l1) = q at hcall HE
      generalize l0[kk].length = xlen at hx0 hcall
      clear h0
      have HC := Aside0.mk hcall
      clear hcall
      cases q with
      | false =>
        go_wp2_with (go_at_call 76; refine HC.out.mono ?_; rintro e w' ⟨rfl, hd'⟩; obtain ⟨nd, rfl⟩ := hd'.out)
        go_roundg (n - (kk + 1))
        case measure => omega
        case rel => exact ⟨kk + 1, cc, by omega, by omega, by omega, rfl, by go_num, ⟨yN HB.out nd⟩, ⟨by rw [HE.out, if_neg (by decide), Nat.zero_add]⟩⟩
      | true =>
        go_wp2_with (go_at_call 76; refine HC.out.mono ?_; rintro e w' ⟨rfl, hd'⟩; obtain ⟨nd, rfl⟩ := hd'.out)
        go_roundg (n - (kk + 1))
        case measure => omega
        case rel => exact ⟨kk + 1, cc + 1, by omega, by omega, by omega, by go_num, by go_num, ⟨yN HB.out nd⟩, ⟨by rw [HE.out]; simp [Nat.add_assoc]⟩⟩
    · have hltz : decide (kk < n) = false := by simpa using hlt
      have HE : Aside0 (cnt l0 l1 = cc) := ⟨by
        rw [HA.out, List.drop_of_length_le (by have := HN.out; omega)]
        rfl⟩
      clear hlt HA
      go_wp2
      go_ret2
      exact ⟨by rw [HE.out]; rfl, HB.out⟩
def tacticianref02_Same.f (k : Nat) (l0 : List (List (S61))) (l1 : List (List (S61))) : Option (Bool) := (tacticianref02_Canonical.f k l0).bind fun t554 => ((tacticianref02_Canonical.f k l1).bind fun t557 => ((tacticianref02_Equal.f k t554 t557).bind fun t560 => (some t560)))
set_option maxHeartbeats 8000000 in
set_option maxRecDepth 100000 in
theorem tacticianref02_Same.calls (k : Nat) (A0 : Option Addr) (c0 : Nat) (l0 : List (List (S61))) (A1 : Option Addr) (c1 : Nat) (l1 : List (List (S61))) (r : Bool) (w : World) (hr0 : Kd.C (Kd.slice 61 k61) w A0 l0.length l0) (hc0 : l0.length ≤ c0) (hr1 : Kd.C (Kd.slice 61 k61) w A1 l1.length l1) (hc1 : l1.length ≤ c1) (h : tacticianref02_Same.f k l0 l1 = some r) :
  Calls Tryz.prog 44 #[.slice A0 l0.length c0, .slice A1 l1.length c1] w fun e w' => e = .returned (.bool r) ∧ Below w.heap.size w w' := by
 have HR0 := Aside0.mk hr0
 have HC0 := Aside0.mk hc0
 clear hr0 hc0
 have HR1 := Aside0.mk hr1
 have HC1 := Aside0.mk hc1
 clear hr1 hc1
 have HB := Aside0.mk (Below.refl w.heap.size w)
 have H : ((tacticianref02_Canonical.f k l0).bind fun t554 => ((tacticianref02_Canonical.f k l1).bind fun t557 => ((tacticianref02_Equal.f k t554 t557).bind fun t560 => (some t560)))) = some r := h
 clear h
 replace H := Option.bind_eq_some_iff.mp H
 obtain ⟨t554, A30, H⟩ := H
 replace H : ((tacticianref02_Canonical.f k l1).bind fun t557 => ((tacticianref02_Equal.f k t554 t557).bind fun t560 => (some t560))) = some r := H
 have A3 := Aside0.mk A30
 clear A30
 replace H := Option.bind_eq_some_iff.mp H
 obtain ⟨t557, A40, H⟩ := H
 replace H : ((tacticianref02_Equal.f k t554 t557).bind fun t560 => (some t560)) = some r := H
 have A4 := Aside0.mk A40
 clear A40
 replace H := Option.bind_eq_some_iff.mp H
 obtain ⟨t560, A50, H⟩ := H
 replace H : (some t560) = some r := H
 have A5 := Aside0.mk A50
 clear A50
 obtain rfl := Option.some.inj H
 go_enter Tryz.func44, Tryz.ntmps44
 go_wp2_with (first | ((with_reducible refine gate_callee (f := 30) rfl ?_); refine goesL_ (some 6) rfl rfl Tryz.func30 (by kernel_rfl) rfl #[.slice A0 l0.length c0] rfl (by (try simp only [List.map_toArray, List.map_cons, List.map_nil]); first | done | rfl | (simp only [List.length_drop, List.length_take]; rfl)) ?_; (with_reducible refine (tacticianref02_Canonical.calls k _ _ l0 t554 _ ?side1 ?side2 A3.out).mono ?_); (case side1 => repeat (first | exact HR0.out | (with_reducible refine Kd.C_alloc ?_ _) | (with_reducible refine Kd.C_drewN ?_ _) | (with_reducible refine Kd.C_drew ?_))); (case side2 => exact HC0.out); rintro e w6 ⟨v555, rfl, ho0, hb⟩; refine ⟨_, rfl, ?_⟩; have n0_ := Aside0.mk (Kd.N_lower (Kd.N_mono (ok' := fun k_ => True) ho0 (fun k_ hk_ => trivial)) (below_size (by repeat (first | (with_reducible first | exact HB.out | apply yA | apply yN | apply yD) | exact HB.out)))); have n1_ := Aside0.mk (below_step (by repeat (first | (with_reducible first | exact HB.out | apply yA | apply yN | apply yD) | exact HB.out)) hb); clear HB; have HO556 := n0_; have HB := n1_; clear n0_ n1_; (try clear hb); (try clear hb2); (try clear hk); (try clear hi); (try clear ho0)) | ((with_reducible refine gate_callee (f := 30) rfl ?_); refine goesL_ (some 8) rfl rfl Tryz.func30 (by kernel_rfl) rfl #[.slice A1 l1.length c1] rfl (by (try simp only [List.map_toArray, List.map_cons, List.map_nil]); first | done | rfl | (simp only [List.length_drop, List.length_take]; rfl)) ?_; (with_reducible refine (tacticianref02_Canonical.calls k _ _ l1 t557 _ ?side1 ?side2 A4.out).mono ?_); (case side1 => repeat (first | exact (Kd.C_below HR1.out HB.out) | (with_reducible refine Kd.C_alloc ?_ _) | (with_reducible refine Kd.C_drewN ?_ _) | (with_reducible refine Kd.C_drew ?_))); (case side2 => exact HC1.out); rintro e w7 ⟨v558, rfl, ho0, hb⟩; refine ⟨_, rfl, ?_⟩; have n0_ := Aside0.mk (Kd.N_elder' (by (with_reducible repeat (first | apply Kd.N_alloc | apply Kd.N_drewN | apply Kd.N_drew)); exact HO556.out) (Kd.N_base ho0) hb); have n1_ := Aside0.mk (Kd.N_lower (Kd.N_mono (ok' := fun k_ => some k_ ≠ (v555 : Value).ownBlock) ho0 (fun k_ hk_ => (Kd.fresh' (Kd.N_lt (by (with_reducible repeat (first | apply Kd.N_alloc | apply Kd.N_drewN | apply Kd.N_drew)); exact HO556.out)) k_ hk_))) (below_size (by repeat (first | (with_reducible first | exact HB.out | apply yA | apply yN | apply yD) | exact HB.out)))); have n2_ := Aside0.mk (below_step (by repeat (first | (with_reducible first | exact HB.out | apply yA | apply yN | apply yD) | exact HB.out)) hb); clear HO556; clear HB; have HO556 := n0_; have HO559 := n1_; have HB := n2_; clear n0_ n1_ n2_; (try clear hb); (try clear hb2); (try clear hk); (try clear hi); (try clear ho0); obtain ⟨Ao8, co8, eo8⟩ := Kd.N_slice HO556.out; subst eo8; obtain ⟨Ao9, co9, eo9⟩ := Kd.N_slice HO559.out; subst eo9) | ((with_reducible refine gate_callee (f := 19) rfl ?_); refine goesL_ (some 9) rfl rfl Tryz.func19 (by kernel_rfl) rfl #[.slice Ao8 t554.length co8, .slice Ao9 t557.length co9] rfl (by (try simp only [List.map_toArray, List.map_cons, List.map_nil]); first | done | rfl | (simp only [List.length_drop, List.length_take]; rfl)) ?_; (with_reducible refine (tacticianref02_Equal.calls k _ _ t554 _ _ t557 t560 _ ?side1 ?side2 ?side3 ?side4 A5.out).mono ?_); (case side1 => repeat (first | exact (Kd.N_reads' HO556.out).2.2 | (with_reducible refine Kd.C_alloc ?_ _) | (with_reducible refine Kd.C_drewN ?_ _) | (with_reducible refine Kd.C_drew ?_))); (case side2 => exact (Kd.N_reads' HO556.out).2.1); (case side3 => repeat (first | exact (Kd.N_reads' HO559.out).2.2 | (with_reducible refine Kd.C_alloc ?_ _) | (with_reducible refine Kd.C_drewN ?_ _) | (with_reducible refine Kd.C_drew ?_))); (case side4 => exact (Kd.N_reads' HO559.out).2.1); rintro e w10 ⟨rfl, hb⟩; refine ⟨_, rfl, ?_⟩; have n0_ := Aside0.mk (Kd.N_below (by (with_reducible repeat (first | apply Kd.N_alloc | apply Kd.N_drewN | apply Kd.N_drew)); exact HO556.out) hb); have n1_ := Aside0.mk (Kd.N_below (by (with_reducible repeat (first | apply Kd.N_alloc | apply Kd.N_drewN | apply Kd.N_drew)); exact HO559.out) hb); have n2_ := Aside0.mk (below_step (by repeat (first | (with_reducible first | exact HB.out | apply yA | apply yN | apply yD) | exact HB.out)) hb); clear HO556; clear HO559; clear HB; have HO556 := n0_; have HO559 := n1_; have HB := n2_; clear n0_ n1_ n2_; (try clear hb); (try clear hb2); (try clear hk); (try clear hi)))
 go_ret
 exact ⟨by first | rfl | (simp [errW_none, errW_some] <;> rfl) | (simp [*, errW_none, errW_some] <;> rfl), by repeat (first | (with_reducible first | exact HB.out | apply yA | apply yN | apply yD) | exact HB.out)⟩
end Go.Proofs.YtmhobbdedmjmnaaGreatDoor.Q
end
section
/- What the definition's Equal and Same answer of any two lists of rows; no program in sight. -/
namespace Go.Proofs.YtmhobbdedmjmnaaGreatDoor
open Go.RowKit Go.Proofs.YtmhobbdedmjmnaaGreatDoor.Q Go.Proofs.YtmhobbdedmjmnaaGreatDoorW.PrintWords Go.Proofs.YtmhobbdedmjmnaaGreatDoorW.PrintLast Go.Proofs.YtmhobbdedmjmnaaGreatDoorW.PrintMore
theorem dec_consP {α : Type} [DecidableEq α] (x y : α) (l r : List α) : decide (x :: l = y :: r) = (decide (x = y) && decide (l = r)) := by
  by_cases e : x = y
  · by_cases e2 : l = r
    · subst e e2; simp
    · simp [e, e2]
  · simp [e]
theorem refEqual2_loop (l m : List (List V)) (hl : RowsOk 100000 l) (hm : RowsOk 100000 m) (hlm : l.length = m.length) : ∀ (d i k : Nat), i + d = l.length → d + 300 < k →
    tacticianref02_Equal.l0 k l m (i : Int) = some (decide (l.drop i = m.drop i)) := by
  have hl1 := hl.1
  intro d
  induction d with
  | zero =>
    intro i k hi hk
    obtain ⟨k, rfl⟩ : ∃ m, k = m + 1 := ⟨k - 1, by omega⟩
    rw [tacticianref02_Equal.l0, if_neg (by omega), List.drop_of_length_le (by omega), List.drop_of_length_le (by omega)]
    rfl
  | succ d ih =>
    intro i k hi hk
    obtain ⟨k, rfl⟩ : ∃ m, k = m + 1 := ⟨k - 1, by omega⟩
    have h1 : i < l.length := by omega
    have h2 : i < m.length := by omega
    rw [tacticianref02_Equal.l0, if_pos (by omega), if_pos (by omega), if_pos (by omega), rdL_at l i h1, rdL_at m i h2, refCmp _ _ (hl.2 _ (List.getElem_mem h1)) (hm.2 _ (List.getElem_mem h2)) k (by omega), Option.bind_some, List.drop_eq_getElem_cons h1, List.drop_eq_getElem_cons h2, dec_consP]
    by_cases h : l[i] = m[i]
    · rw [if_pos ((cfR_zero _ _).2 h), decide_eq_true h, Bool.true_and, wrap_small (n := (i : Int) + 1) (by omega) (by omega), show ((i : Int) + 1) = ((i + 1 : Nat) : Int) by omega]
      exact ih (i + 1) k (by omega) (by omega)
    · rw [if_neg (fun e => h ((cfR_zero _ _).1 e)), decide_eq_false h, Bool.false_and]
theorem refEqual2 (l m : List (List V)) (hl : RowsOk 100000 l) (hm : RowsOk 100000 m) (k : Nat) (hk : 100301 ≤ k) : tacticianref02_Equal.f k l m = some (decide (l = m)) := by
  have hl1 := hl.1
  unfold tacticianref02_Equal.f
  by_cases h : l.length = m.length
  · rw [if_pos (by omega)]
    exact refEqual2_loop l m hl hm h l.length 0 k (by omega) (by omega)
  · rw [if_neg (by omega), decide_eq_false fun e => h (by rw [e])]
theorem refSame (a b : List (List V)) (ha : RowsOk 100000 a) (hb : RowsOk 100000 b) (k : Nat) (hk : 410000 ≤ k) : tacticianref02_Same.f k a b = some (decide (canR a = canR b)) := by
  unfold tacticianref02_Same.f
  rw [refCanonical a ha k hk, refCanonical b hb k hk]
  simp only [Option.bind_some]
  rw [refEqual2 _ _ (canR_ok ha) (canR_ok hb) k (by omega), Option.bind_some]
end Go.Proofs.YtmhobbdedmjmnaaGreatDoor
end
section
/- What the program's Same, Times, Distinct, Canonical answer of rows that are not too many; no program in sight. -/
namespace Go.Proofs.YtmhobbdedmjmnaaGreatDoor
open Go.RowKit Go.Proofs.YtmhobbdedmjmnaaGreatDoor.Q Go.Proofs.YtmhobbdedmjmnaaGreatDoorW.PrintWords Go.Proofs.YtmhobbdedmjmnaaGreatDoorW.PrintLast Go.Proofs.YtmhobbdedmjmnaaGreatDoorW.PrintMore
theorem sameF (a b : List (List V)) (ha : RowsOk 100000 a) (hb : RowsOk 100000 b) : rows_Same.f a b = some (if smallE [a, b] = 0 then (decide (canR a = canR b), 0) else (false, smallE [a, b])) := by
  have h1 := ha.1
  unfold rows_Same.f rows_small.f rows_Sorted.f rows_Alike.f
  rw [Option.bind_some]
  by_cases hs : smallE [a, b] = 0
  · rw [if_pos hs, if_pos hs, if_pos (okR_of ha (by omega)), if_pos (okR_of hb (by omega))]
    simp only [Option.bind_some]
    rw [if_pos (by unfold canR; rw [sortBy_length]; omega), Option.bind_some]
  · rw [if_neg hs, if_neg hs]
theorem smallE_row (a : List (List V)) (x : List V) : smallE [a, [x]] = if 16 < x.length then 2 else if smallE [a] ≠ 0 then smallE [a] else smallE [[x]] := by
  have hx : largeR [x] = decide (16 < x.length) := by
    unfold largeR
    simp
  unfold smallE
  simp only [List.any_cons, List.any_nil, Bool.or_false]
  rw [hx]
  by_cases h : 16 < x.length
  · rw [if_pos h, decide_eq_true h, Bool.or_true, if_pos rfl]
  · rw [if_neg h, decide_eq_false h]
    cases largeR a <;> cases wrongR a <;> cases wrongR [x] <;> rfl
theorem timesF (a : List (List V)) (x : List V) : rows_Times.f a x = some (if smallE [a, [x]] = 0 then (((cnt a x : Nat) : Int), 0) else (0, smallE [a, [x]])) := by
  unfold rows_Times.f
  rw [smallE_row]
  by_cases h : 16 < x.length
  · rw [if_pos h, if_pos h, if_neg (by decide)]
  · rw [if_neg h, if_neg h]
    by_cases h1 : smallE [a] ≠ 0
    · rw [if_pos h1, if_pos h1, if_neg h1]
    · rw [if_neg h1, if_neg h1]
      by_cases h2 : smallE [[x]] = 0
      · rw [if_neg (by simpa using h2), if_pos h2]
      · rw [if_pos h2, if_neg h2]
end Go.Proofs.YtmhobbdedmjmnaaGreatDoor
end
section
/- Each function reached is shown to return what the plain function beside it computes, wherever that is defined (written by a program of ours for this seat). -/
namespace Go.Proofs.YtmhobbdedmjmnaaGreatDoor.Q
open Go.RowKit Go.Proofs.YtmhobbdedmjmnaaGreatDoorW.PrintWords Go.Proofs.YtmhobbdedmjmnaaGreatDoorW.PrintLast Go.Proofs.YtmhobbdedmjmnaaGreatDoorW.PrintMore
attribute [local go_sem] max2_int min2_int max_two min_two max_three min_three max_four min_four   -- for this text's walks alone
set_option linter.unusedVariables false
set_option linter.unusedSimpArgs false
/-! ### tacticianlaw02_awake: function 18 -/
section
/-- a number, as a value -/
abbrev iV (n : Int) : V := ⟨1, n, ⟨#[]⟩⟩
theorem below_any {w w' : World} (h : Below w.heap.size w w') : Below w.heap.size w w' := h
theorem rowK {W : World} {A : Option Addr} {n c : Nat} {x : List V} (h : Kd.C k61 W A n x) (hc : n ≤ c) : (Kd.slice 61 k61).K W x [.slice A n c] := by
  obtain rfl := h.1
  exact ⟨A, c, rfl, hc, h⟩
theorem rowKnil {W : World} : (Kd.slice 61 k61).K W [] [.slice none 0 0] := ⟨none, 0, rfl, Nat.le_refl _, Kd.C_nil _ _⟩
theorem rowLit1 (n : Int) (W : World) {g : Nat} (hg : g = W.heap.size) : Calls Tryz.prog 57 #[.slice (some ⟨g, 0, none⟩) 1 1] (W.alloc (.cells #[.int .i64 n] 2)) fun e w' => ∃ A c, e = .returned (.slice A 1 c) ∧ 1 ≤ c ∧ Kd.C k61 w' A 1 [iV n] ∧ Below W.heap.size W w' := by
  subst hg
  have hC : Kd.C (Kd.int .i64) (W.alloc (.cells #[.int .i64 n] 2)) (some ⟨W.heap.size, 0, none⟩) 1 [n] := C_lit rfl (blk_new W _) (Reps.one rfl (Reps.none _ _)) (show 1 ≤ 1000 by decide)
  refine (tacticianlaw02_row.calls 3 (some ⟨W.heap.size, 0, none⟩) 1 [n] [iV n] _ hC (Nat.le_refl _) (by simp [tacticianlaw02_row.f, tacticianlaw02_row.l0, tacticianref01_Int.f, rd, iV, wrap64])).mono ?_
  rintro e w' ⟨v, rfl, hv, hb⟩
  obtain ⟨A, c, rfl, h1, h2⟩ := Kd.R_reads hv
  exact ⟨A, c, rfl, h1, h2, below_step (below_alloc (Below.refl _ _) _) hb⟩
theorem rowLit2 (n m : Int) (W : World) {g : Nat} (hg : g = W.heap.size) : Calls Tryz.prog 57 #[.slice (some ⟨g, 0, none⟩) 2 2] (W.alloc (.cells #[.int .i64 n, .int .i64 m] 2)) fun e w' => ∃ A c, e = .returned (.slice A 2 c) ∧ 2 ≤ c ∧ Kd.C k61 w' A 2 [iV n, iV m] ∧ Below W.heap.size W w' := by
  subst hg
  have hC : Kd.C (Kd.int .i64) (W.alloc (.cells #[.int .i64 n, .int .i64 m] 2)) (some ⟨W.heap.size, 0, none⟩) 2 [n, m] := C_lit rfl (blk_new W _) (Reps.one rfl (Reps.one rfl (Reps.none _ _))) (show 2 ≤ 1000 by decide)
  refine (tacticianlaw02_row.calls 4 (some ⟨W.heap.size, 0, none⟩) 2 [n, m] [iV n, iV m] _ hC (Nat.le_refl _) (by simp [tacticianlaw02_row.f, tacticianlaw02_row.l0, tacticianref01_Int.f, rd, iV, wrap64])).mono ?_
  rintro e w' ⟨v, rfl, hv, hb⟩
  obtain ⟨A, c, rfl, h1, h2⟩ := Kd.R_reads hv
  exact ⟨A, c, rfl, h1, h2, below_step (below_alloc (Below.refl _ _) _) hb⟩
theorem keyLit {W : World} (g : Nat) (h : W.heap[g]? = some (.cells #[.int .i64 1, .bool true] 36 (0, 0))) : Kd.C k36 W (some ⟨g, 0, none⟩) 1 [(⟨1, true⟩ : KK)] :=
  ⟨rfl, by decide, fun _ => ⟨_, rfl, fun j p hj => by
    have hj0 : j = 0 := by
      have := (List.getElem?_eq_some_iff.1 hj).1
      simpa using this
    subst hj0
    have hp : (⟨1, true⟩ : KK) = p := by simpa using hj
    subst hp
    exact ⟨[.int .i64 1, .bool true], rfl, ⟨[.int .i64 1], [.bool true], rfl, rfl, rfl⟩, fun i u hu => by
      rw [show 0 * (k36).sz + i = i by rw [Nat.zero_mul, Nat.zero_add], add_at, Nat.zero_add, blk_cell h]
      simpa using hu⟩⟩⟩
theorem keyLit2 (W : World) (x : Obj) : Kd.C k36 ((W.alloc x).alloc (.cells #[.int .i64 1, .bool true] 36)) (some ⟨W.heap.size + 1, 0, none⟩) 1 [(⟨1, true⟩ : KK)] := by
  have h := blk_new (W.alloc x) (.cells #[.int .i64 1, .bool true] 36)
  rw [show (W.alloc x).heap.size = W.heap.size + 1 by simp] at h
  exact keyLit _ h
theorem canR_is {l r : List (List V)} (h1 : r.Perm l) (h2 : r.Pairwise fun a b => leOf cfR a b = true) : canR l = r := (cfR_tc.unique h1 h2).symm
theorem sortK_is (ks : List (Int × Bool)) {l r : List (List V)} (h1 : r.Perm l) (h2 : r.Pairwise fun a b => leOf (cfK ks) a b = true) : sortBy (cfK ks) l = r := ((cfK_tc ks).unique h1 h2).symm
theorem aw_HX : rows_Both.f [[iV 1], [iV 1], [iV 2]] [[iV 1], [iV 3]] true = some ([[iV 1]], 0) := by
  unfold rows_Both.f
  rw [if_pos (by decide +kernel), if_pos (by decide +kernel), if_pos rfl, canR_is (r := [[iV 1]]) (by decide +kernel) (by decide +kernel)]
theorem aw_HY : rows_Minus.f [[iV 1], [iV 1], [iV 2]] [[iV 1], [iV 3]] true = some ([[iV 1], [iV 2]], 0) := by
  unfold rows_Minus.f
  rw [if_pos (by decide +kernel), if_pos (by decide +kernel), if_pos rfl, canR_is (r := [[iV 1], [iV 2]]) (by decide +kernel) (by decide +kernel)]
theorem aw_one : oneR [[iV 1], [iV 1], [iV 2]] = [[iV 1], [iV 2]] := by
  unfold oneR
  rw [canR_is (r := [[iV 1], [iV 1], [iV 2]]) (by decide +kernel) (by decide +kernel)]
  decide +kernel
theorem aw_HZ : rows_Minus.f [[iV 1], [iV 1], [iV 2]] [[iV 1], [iV 3]] false = some ([[iV 2]], 0) := by
  unfold rows_Minus.f
  rw [if_pos (by decide +kernel), if_pos (by decide +kernel), if_neg (by decide), aw_one, canR_is (r := [[iV 2]]) (by decide +kernel) (by decide +kernel)]
theorem aw_HOO : rows_Ordered.f [[iV 1, iV 2], [iV 2, iV 1], [iV 1, iV 1]] [(⟨1, true⟩ : KK)] = some ([[iV 1, iV 2], [iV 1, iV 1], [iV 2, iV 1]], 0) := by
  unfold rows_Ordered.f
  rw [if_pos (by decide +kernel), if_pos (by decide +kernel), if_pos (by decide +kernel), sortK_is _ (r := [[iV 1, iV 2], [iV 1, iV 1], [iV 2, iV 1]]) (by decide +kernel) (by decide +kernel)]
theorem aw_S : rows_String.f [[iV 1, iV 2], []] = some (⟨#[40, 49, 44, 32, 50, 41, 10, 40, 41, 10]⟩, 0) := by
  unfold rows_String.f
  rw [if_pos (by decide +kernel), if_pos (by decide +kernel), if_pos (by decide +kernel)]
  decide +kernel
def tacticianlaw02_awake.f : Option Bool := some true
set_option maxRecDepth 100000 in
set_option maxHeartbeats 8000000 in
theorem tacticianlaw02_awake.calls (r : Bool) (w : World) (hL_ : Laid w) (h : tacticianlaw02_awake.f = some r) :
  Calls Tryz.prog 18 #[] w fun e w' => e = .returned (.bool r) ∧ Below w.heap.size w w' := by
 obtain rfl := Option.some.inj h
 clear h
 have HLD := Aside0.mk hL_
 clear hL_
 have hu36 := Tryz.underlying36
 have HB := Aside0.mk (Below.refl w.heap.size w)
 go_enter Tryz.func18, Tryz.ntmps18
 go_wp2_with fail
 refine (rowLit1 1 (w) (by first | rfl | (go_simp; done) | (go_simp; rfl))).mono ?_
 rintro e w1 ⟨A1, c1, rfl, hl1, hC1, hb1⟩
 have HT := Aside0.mk (below_step HB.out hb1)
 clear HB
 have HB := HT
 clear HT
 have HC1 := Aside0.mk hC1
 have HL1 := Aside0.mk hl1
 clear hC1 hl1 hb1
 go_wp2_with fail
 refine (rowLit1 1 (w1) (by first | rfl | (go_simp; done) | (go_simp; rfl))).mono ?_
 rintro e w2 ⟨A2, c2, rfl, hl2, hC2, hb2⟩
 have HC1_ := Aside0.mk (Kd.C_below HC1.out hb2)
 clear HC1
 have HC1 := HC1_
 clear HC1_
 have HT := Aside0.mk (below_step HB.out hb2)
 clear HB
 have HB := HT
 clear HT
 have HC2 := Aside0.mk hC2
 have HL2 := Aside0.mk hl2
 clear hC2 hl2 hb2
 go_wp2_with fail
 refine (rowLit1 2 (w2) (by first | rfl | (go_simp; done) | (go_simp; rfl))).mono ?_
 rintro e w3 ⟨A3, c3, rfl, hl3, hC3, hb3⟩
 have HC1_ := Aside0.mk (Kd.C_below HC1.out hb3)
 clear HC1
 have HC1 := HC1_
 clear HC1_
 have HC2_ := Aside0.mk (Kd.C_below HC2.out hb3)
 clear HC2
 have HC2 := HC2_
 clear HC2_
 have HT := Aside0.mk (below_step HB.out hb3)
 clear HB
 have HB := HT
 clear HT
 have HC3 := Aside0.mk hC3
 have HL3 := Aside0.mk hl3
 clear hC3 hl3 hb3
 have HC1_ := Aside0.mk (Kd.C_below HC1.out (below_alloc (Below.refl _ _) (.cells #[.slice A1 1 c1, .slice A2 1 c2, .slice A3 1 c3] 40)))
 clear HC1
 have HC1 := HC1_
 clear HC1_
 have HC2_ := Aside0.mk (Kd.C_below HC2.out (below_alloc (Below.refl _ _) (.cells #[.slice A1 1 c1, .slice A2 1 c2, .slice A3 1 c3] 40)))
 clear HC2
 have HC2 := HC2_
 clear HC2_
 have HC3_ := Aside0.mk (Kd.C_below HC3.out (below_alloc (Below.refl _ _) (.cells #[.slice A1 1 c1, .slice A2 1 c2, .slice A3 1 c3] 40)))
 clear HC3
 have HC3 := HC3_
 clear HC3_
 have HA : Aside0 (Kd.C (Kd.slice 61 k61) (w3.alloc (.cells #[.slice A1 1 c1, .slice A2 1 c2, .slice A3 1 c3] 40)) _ 3 [[iV 1], [iV 1], [iV 2]]) := ⟨C_lit rfl (blk_new _ _) (Reps.one (rowK HC1.out HL1.out) (Reps.one (rowK HC2.out HL2.out) (Reps.one (rowK HC3.out HL3.out) (Reps.none _ _)))) (show 3 ≤ 1000 by decide)⟩
 clear HC1 HL1
 clear HC2 HL2
 clear HC3 HL3
 have HT := Aside0.mk (below_alloc HB.out (.cells #[.slice A1 1 c1, .slice A2 1 c2, .slice A3 1 c3] 40))
 clear HB
 have HB := HT
 clear HT
 go_wp2_with fail
 refine (rowLit1 1 (w3.alloc (.cells #[.slice A1 1 c1, .slice A2 1 c2, .slice A3 1 c3] 40)) (by first | rfl | (go_simp; done) | (go_simp; rfl))).mono ?_
 rintro e w4 ⟨A4, c4, rfl, hl4, hC4, hb4⟩
 have HA_ := Aside0.mk (Kd.C_below HA.out hb4)
 clear HA
 have HA := HA_
 clear HA_
 have HT := Aside0.mk (below_step HB.out hb4)
 clear HB
 have HB := HT
 clear HT
 have HC4 := Aside0.mk hC4
 have HL4 := Aside0.mk hl4
 clear hC4 hl4 hb4
 go_wp2_with fail
 refine (rowLit1 3 (w4) (by first | rfl | (go_simp; done) | (go_simp; rfl))).mono ?_
 rintro e w5 ⟨A5, c5, rfl, hl5, hC5, hb5⟩
 have HA_ := Aside0.mk (Kd.C_below HA.out hb5)
 clear HA
 have HA := HA_
 clear HA_
 have HC4_ := Aside0.mk (Kd.C_below HC4.out hb5)
 clear HC4
 have HC4 := HC4_
 clear HC4_
 have HT := Aside0.mk (below_step HB.out hb5)
 clear HB
 have HB := HT
 clear HT
 have HC5 := Aside0.mk hC5
 have HL5 := Aside0.mk hl5
 clear hC5 hl5 hb5
 have HA_ := Aside0.mk (Kd.C_below HA.out (below_alloc (Below.refl _ _) (.cells #[.slice A4 1 c4, .slice A5 1 c5] 40)))
 clear HA
 have HA := HA_
 clear HA_
 have HC4_ := Aside0.mk (Kd.C_below HC4.out (below_alloc (Below.refl _ _) (.cells #[.slice A4 1 c4, .slice A5 1 c5] 40)))
 clear HC4
 have HC4 := HC4_
 clear HC4_
 have HC5_ := Aside0.mk (Kd.C_below HC5.out (below_alloc (Below.refl _ _) (.cells #[.slice A4 1 c4, .slice A5 1 c5] 40)))
 clear HC5
 have HC5 := HC5_
 clear HC5_
 have HBB : Aside0 (Kd.C (Kd.slice 61 k61) (w5.alloc (.cells #[.slice A4 1 c4, .slice A5 1 c5] 40)) _ 2 [[iV 1], [iV 3]]) := ⟨C_lit rfl (blk_new _ _) (Reps.one (rowK HC4.out HL4.out) (Reps.one (rowK HC5.out HL5.out) (Reps.none _ _))) (show 2 ≤ 1000 by decide)⟩
 clear HC4 HL4
 clear HC5 HL5
 have HT := Aside0.mk (below_alloc HB.out (.cells #[.slice A4 1 c4, .slice A5 1 c5] 40))
 clear HB
 have HB := HT
 clear HT
 go_wp2_with fail
 refine (rows_Both.calls _ _ [[iV 1], [iV 1], [iV 2]] _ _ [[iV 1], [iV 3]] true [[iV 1]] 0 _ HA.out (Nat.le_refl _) HBB.out (Nat.le_refl _) (HLD.out.below HB.out) (by exact aw_HX)).mono ?_
 rintro e w6 ⟨v6, rfl, hv6, hb6⟩
 obtain ⟨A6, c6, rfl, hl6, hC6⟩ := Kd.S_reads hv6
 have HA_ := Aside0.mk (Kd.C_below HA.out hb6)
 clear HA
 have HA := HA_
 clear HA_
 have HBB_ := Aside0.mk (Kd.C_below HBB.out hb6)
 clear HBB
 have HBB := HBB_
 clear HBB_
 have HT := Aside0.mk (below_step HB.out hb6)
 clear HB
 have HB := HT
 clear HT
 have HX := Aside0.mk hC6
 have LHX := Aside0.mk hl6
 clear hC6 hl6 hv6 hb6
 go_wp2_with fail
 refine (rows_Minus.calls _ _ [[iV 1], [iV 1], [iV 2]] _ _ [[iV 1], [iV 3]] true [[iV 1], [iV 2]] 0 _ HA.out (Nat.le_refl _) HBB.out (Nat.le_refl _) (HLD.out.below HB.out) (by exact aw_HY)).mono ?_
 rintro e w7 ⟨v7, rfl, hv7, hb7⟩
 obtain ⟨A7, c7, rfl, hl7, hC7⟩ := Kd.S_reads hv7
 have HA_ := Aside0.mk (Kd.C_below HA.out hb7)
 clear HA
 have HA := HA_
 clear HA_
 have HBB_ := Aside0.mk (Kd.C_below HBB.out hb7)
 clear HBB
 have HBB := HBB_
 clear HBB_
 have HX_ := Aside0.mk (Kd.C_below HX.out hb7)
 clear HX
 have HX := HX_
 clear HX_
 have HT := Aside0.mk (below_step HB.out hb7)
 clear HB
 have HB := HT
 clear HT
 have HY := Aside0.mk hC7
 have LHY := Aside0.mk hl7
 clear hC7 hl7 hv7 hb7
 go_wp2_with fail
 refine (rows_Minus.calls _ _ [[iV 1], [iV 1], [iV 2]] _ _ [[iV 1], [iV 3]] false [[iV 2]] 0 _ HA.out (Nat.le_refl _) HBB.out (Nat.le_refl _) (HLD.out.below HB.out) (by exact aw_HZ)).mono ?_
 rintro e w8 ⟨v8, rfl, hv8, hb8⟩
 obtain ⟨A8, c8, rfl, hl8, hC8⟩ := Kd.S_reads hv8
 have HA_ := Aside0.mk (Kd.C_below HA.out hb8)
 clear HA
 have HA := HA_
 clear HA_
 have HBB_ := Aside0.mk (Kd.C_below HBB.out hb8)
 clear HBB
 have HBB := HBB_
 clear HBB_
 have HX_ := Aside0.mk (Kd.C_below HX.out hb8)
 clear HX
 have HX := HX_
 clear HX_
 have HY_ := Aside0.mk (Kd.C_below HY.out hb8)
 clear HY
 have HY := HY_
 clear HY_
 have HT := Aside0.mk (below_step HB.out hb8)
 clear HB
 have HB := HT
 clear HT
 have HZ := Aside0.mk hC8
 have LHZ := Aside0.mk hl8
 clear hC8 hl8 hv8 hb8
 clear HA HBB
 go_wp2_with fail
 refine (rowLit2 1 2 (w8) (by first | rfl | (go_simp; done) | (go_simp; rfl))).mono ?_
 rintro e w9 ⟨A9, c9, rfl, hl9, hC9, hb9⟩
 have HX_ := Aside0.mk (Kd.C_below HX.out hb9)
 clear HX
 have HX := HX_
 clear HX_
 have HY_ := Aside0.mk (Kd.C_below HY.out hb9)
 clear HY
 have HY := HY_
 clear HY_
 have HZ_ := Aside0.mk (Kd.C_below HZ.out hb9)
 clear HZ
 have HZ := HZ_
 clear HZ_
 have HT := Aside0.mk (below_step HB.out hb9)
 clear HB
 have HB := HT
 clear HT
 have HC9 := Aside0.mk hC9
 have HL9 := Aside0.mk hl9
 clear hC9 hl9 hb9
 go_wp2_with fail
 refine (rowLit2 2 1 (w9) (by first | rfl | (go_simp; done) | (go_simp; rfl))).mono ?_
 rintro e w10 ⟨A10, c10, rfl, hl10, hC10, hb10⟩
 have HX_ := Aside0.mk (Kd.C_below HX.out hb10)
 clear HX
 have HX := HX_
 clear HX_
 have HY_ := Aside0.mk (Kd.C_below HY.out hb10)
 clear HY
 have HY := HY_
 clear HY_
 have HZ_ := Aside0.mk (Kd.C_below HZ.out hb10)
 clear HZ
 have HZ := HZ_
 clear HZ_
 have HC9_ := Aside0.mk (Kd.C_below HC9.out hb10)
 clear HC9
 have HC9 := HC9_
 clear HC9_
 have HT := Aside0.mk (below_step HB.out hb10)
 clear HB
 have HB := HT
 clear HT
 have HC10 := Aside0.mk hC10
 have HL10 := Aside0.mk hl10
 clear hC10 hl10 hb10
 go_wp2_with fail
 refine (rowLit2 1 1 (w10) (by first | rfl | (go_simp; done) | (go_simp; rfl))).mono ?_
 rintro e w11 ⟨A11, c11, rfl, hl11, hC11, hb11⟩
 have HX_ := Aside0.mk (Kd.C_below HX.out hb11)
 clear HX
 have HX := HX_
 clear HX_
 have HY_ := Aside0.mk (Kd.C_below HY.out hb11)
 clear HY
 have HY := HY_
 clear HY_
 have HZ_ := Aside0.mk (Kd.C_below HZ.out hb11)
 clear HZ
 have HZ := HZ_
 clear HZ_
 have HC9_ := Aside0.mk (Kd.C_below HC9.out hb11)
 clear HC9
 have HC9 := HC9_
 clear HC9_
 have HC10_ := Aside0.mk (Kd.C_below HC10.out hb11)
 clear HC10
 have HC10 := HC10_
 clear HC10_
 have HT := Aside0.mk (below_step HB.out hb11)
 clear HB
 have HB := HT
 clear HT
 have HC11 := Aside0.mk hC11
 have HL11 := Aside0.mk hl11
 clear hC11 hl11 hb11
 have HX_ := Aside0.mk (Kd.C_below HX.out (below_alloc (Below.refl _ _) (.cells #[.slice A9 2 c9, .slice A10 2 c10, .slice A11 2 c11] 40)))
 clear HX
 have HX := HX_
 clear HX_
 have HY_ := Aside0.mk (Kd.C_below HY.out (below_alloc (Below.refl _ _) (.cells #[.slice A9 2 c9, .slice A10 2 c10, .slice A11 2 c11] 40)))
 clear HY
 have HY := HY_
 clear HY_
 have HZ_ := Aside0.mk (Kd.C_below HZ.out (below_alloc (Below.refl _ _) (.cells #[.slice A9 2 c9, .slice A10 2 c10, .slice A11 2 c11] 40)))
 clear HZ
 have HZ := HZ_
 clear HZ_
 have HC9_ := Aside0.mk (Kd.C_below HC9.out (below_alloc (Below.refl _ _) (.cells #[.slice A9 2 c9, .slice A10 2 c10, .slice A11 2 c11] 40)))
 clear HC9
 have HC9 := HC9_
 clear HC9_
 have HC10_ := Aside0.mk (Kd.C_below HC10.out (below_alloc (Below.refl _ _) (.cells #[.slice A9 2 c9, .slice A10 2 c10, .slice A11 2 c11] 40)))
 clear HC10
 have HC10 := HC10_
 clear HC10_
 have HC11_ := Aside0.mk (Kd.C_below HC11.out (below_alloc (Below.refl _ _) (.cells #[.slice A9 2 c9, .slice A10 2 c10, .slice A11 2 c11] 40)))
 clear HC11
 have HC11 := HC11_
 clear HC11_
 have HO0 : Aside0 (Kd.C (Kd.slice 61 k61) (w11.alloc (.cells #[.slice A9 2 c9, .slice A10 2 c10, .slice A11 2 c11] 40)) _ 3 [[iV 1, iV 2], [iV 2, iV 1], [iV 1, iV 1]]) := ⟨C_lit rfl (blk_new _ _) (Reps.one (rowK HC9.out HL9.out) (Reps.one (rowK HC10.out HL10.out) (Reps.one (rowK HC11.out HL11.out) (Reps.none _ _)))) (show 3 ≤ 1000 by decide)⟩
 clear HC9 HL9
 clear HC10 HL10
 clear HC11 HL11
 have HT := Aside0.mk (below_alloc HB.out (.cells #[.slice A9 2 c9, .slice A10 2 c10, .slice A11 2 c11] 40))
 clear HB
 have HB := HT
 clear HT
 go_wp2_with fail
 have HX_ := Aside0.mk (Kd.C_below HX.out (below_alloc (Below.refl _ _) (.cells #[.int .i64 1, .bool true] 36)))
 clear HX
 have HX := HX_
 clear HX_
 have HY_ := Aside0.mk (Kd.C_below HY.out (below_alloc (Below.refl _ _) (.cells #[.int .i64 1, .bool true] 36)))
 clear HY
 have HY := HY_
 clear HY_
 have HZ_ := Aside0.mk (Kd.C_below HZ.out (below_alloc (Below.refl _ _) (.cells #[.int .i64 1, .bool true] 36)))
 clear HZ
 have HZ := HZ_
 clear HZ_
 have HO0_ := Aside0.mk (Kd.C_below HO0.out (below_alloc (Below.refl _ _) (.cells #[.int .i64 1, .bool true] 36)))
 clear HO0
 have HO0 := HO0_
 clear HO0_
 have HT := Aside0.mk (below_alloc HB.out (.cells #[.int .i64 1, .bool true] 36))
 clear HB
 have HB := HT
 clear HT
 have HKY : Aside0 (Kd.C k36 ((w11.alloc (.cells #[.slice A9 2 c9, .slice A10 2 c10, .slice A11 2 c11] 40)).alloc (.cells #[.int .i64 1, .bool true] 36)) (some ⟨w11.heap.size + 1, 0, none⟩) 1 [(⟨1, true⟩ : KK)]) := ⟨keyLit2 _ _⟩
 refine (rows_Ordered.calls _ _ [[iV 1, iV 2], [iV 2, iV 1], [iV 1, iV 1]] _ _ [(⟨1, true⟩ : KK)] [[iV 1, iV 2], [iV 1, iV 1], [iV 2, iV 1]] 0 _ HO0.out (Nat.le_refl _) HKY.out (Nat.le_refl _) (by exact aw_HOO)).mono ?_
 rintro e w12 ⟨v12, rfl, hv12, hb12⟩
 obtain ⟨A12, c12, rfl, hl12, hC12⟩ := Kd.S_reads hv12
 clear HO0 HKY
 have HX_ := Aside0.mk (Kd.C_below HX.out hb12)
 clear HX
 have HX := HX_
 clear HX_
 have HY_ := Aside0.mk (Kd.C_below HY.out hb12)
 clear HY
 have HY := HY_
 clear HY_
 have HZ_ := Aside0.mk (Kd.C_below HZ.out hb12)
 clear HZ
 have HZ := HZ_
 clear HZ_
 have HT := Aside0.mk (below_step HB.out hb12)
 clear HB
 have HB := HT
 clear HT
 have HOO := Aside0.mk hC12
 have LHOO := Aside0.mk hl12
 clear hC12 hl12 hv12 hb12
 go_wp2_with fail
 refine (rowLit2 1 2 (w12) (by first | rfl | (go_simp; done) | (go_simp; rfl))).mono ?_
 rintro e w13 ⟨A13, c13, rfl, hl13, hC13, hb13⟩
 have HX_ := Aside0.mk (Kd.C_below HX.out hb13)
 clear HX
 have HX := HX_
 clear HX_
 have HY_ := Aside0.mk (Kd.C_below HY.out hb13)
 clear HY
 have HY := HY_
 clear HY_
 have HZ_ := Aside0.mk (Kd.C_below HZ.out hb13)
 clear HZ
 have HZ := HZ_
 clear HZ_
 have HOO_ := Aside0.mk (Kd.C_below HOO.out hb13)
 clear HOO
 have HOO := HOO_
 clear HOO_
 have HT := Aside0.mk (below_step HB.out hb13)
 clear HB
 have HB := HT
 clear HT
 have HC13 := Aside0.mk hC13
 have HL13 := Aside0.mk hl13
 clear hC13 hl13 hb13
 have HX_ := Aside0.mk (Kd.C_below HX.out (below_alloc (Below.refl _ _) (.cells #[.slice A13 2 c13, .slice none 0 0] 40)))
 clear HX
 have HX := HX_
 clear HX_
 have HY_ := Aside0.mk (Kd.C_below HY.out (below_alloc (Below.refl _ _) (.cells #[.slice A13 2 c13, .slice none 0 0] 40)))
 clear HY
 have HY := HY_
 clear HY_
 have HZ_ := Aside0.mk (Kd.C_below HZ.out (below_alloc (Below.refl _ _) (.cells #[.slice A13 2 c13, .slice none 0 0] 40)))
 clear HZ
 have HZ := HZ_
 clear HZ_
 have HOO_ := Aside0.mk (Kd.C_below HOO.out (below_alloc (Below.refl _ _) (.cells #[.slice A13 2 c13, .slice none 0 0] 40)))
 clear HOO
 have HOO := HOO_
 clear HOO_
 have HC13_ := Aside0.mk (Kd.C_below HC13.out (below_alloc (Below.refl _ _) (.cells #[.slice A13 2 c13, .slice none 0 0] 40)))
 clear HC13
 have HC13 := HC13_
 clear HC13_
 have HS0 : Aside0 (Kd.C (Kd.slice 61 k61) (w13.alloc (.cells #[.slice A13 2 c13, .slice none 0 0] 40)) _ 2 [[iV 1, iV 2], []]) := ⟨C_lit rfl (blk_new _ _) (Reps.one (rowK HC13.out HL13.out) (Reps.one rowKnil (Reps.none _ _))) (show 2 ≤ 1000 by decide)⟩
 clear HC13 HL13
 have HT := Aside0.mk (below_alloc HB.out (.cells #[.slice A13 2 c13, .slice none 0 0] 40))
 clear HB
 have HB := HT
 clear HT
 go_wp2_with fail
 refine (rows_String.calls _ _ [[iV 1, iV 2], []] ⟨#[40, 49, 44, 32, 50, 41, 10, 40, 41, 10]⟩ 0 _ HS0.out (Nat.le_refl _) (HLD.out.below HB.out) (by exact aw_S)).mono ?_
 rintro e w14 ⟨rfl, hb14⟩
 clear HS0
 have HX_ := Aside0.mk (Kd.C_below HX.out hb14)
 clear HX
 have HX := HX_
 clear HX_
 have HY_ := Aside0.mk (Kd.C_below HY.out hb14)
 clear HY
 have HY := HY_
 clear HY_
 have HZ_ := Aside0.mk (Kd.C_below HZ.out hb14)
 clear HZ
 have HZ := HZ_
 clear HZ_
 have HOO_ := Aside0.mk (Kd.C_below HOO.out hb14)
 clear HOO
 have HOO := HOO_
 clear HOO_
 have HT := Aside0.mk (below_step HB.out hb14)
 clear HB hb14
 have HB := HT
 clear HT
 go_wp2_with fail
 refine (rowLit1 1 (w14) (by first | rfl | (go_simp; done) | (go_simp; rfl))).mono ?_
 rintro e w15 ⟨A15, c15, rfl, hl15, hC15, hb15⟩
 have HX_ := Aside0.mk (Kd.C_below HX.out hb15)
 clear HX
 have HX := HX_
 clear HX_
 have HY_ := Aside0.mk (Kd.C_below HY.out hb15)
 clear HY
 have HY := HY_
 clear HY_
 have HZ_ := Aside0.mk (Kd.C_below HZ.out hb15)
 clear HZ
 have HZ := HZ_
 clear HZ_
 have HOO_ := Aside0.mk (Kd.C_below HOO.out hb15)
 clear HOO
 have HOO := HOO_
 clear HOO_
 have HT := Aside0.mk (below_step HB.out hb15)
 clear HB
 have HB := HT
 clear HT
 have HC15 := Aside0.mk hC15
 have HL15 := Aside0.mk hl15
 clear hC15 hl15 hb15
 have HX_ := Aside0.mk (Kd.C_below HX.out (below_alloc (Below.refl _ _) (.cells #[.slice A15 1 c15] 40)))
 clear HX
 have HX := HX_
 clear HX_
 have HY_ := Aside0.mk (Kd.C_below HY.out (below_alloc (Below.refl _ _) (.cells #[.slice A15 1 c15] 40)))
 clear HY
 have HY := HY_
 clear HY_
 have HZ_ := Aside0.mk (Kd.C_below HZ.out (below_alloc (Below.refl _ _) (.cells #[.slice A15 1 c15] 40)))
 clear HZ
 have HZ := HZ_
 clear HZ_
 have HOO_ := Aside0.mk (Kd.C_below HOO.out (below_alloc (Below.refl _ _) (.cells #[.slice A15 1 c15] 40)))
 clear HOO
 have HOO := HOO_
 clear HOO_
 have HC15_ := Aside0.mk (Kd.C_below HC15.out (below_alloc (Below.refl _ _) (.cells #[.slice A15 1 c15] 40)))
 clear HC15
 have HC15 := HC15_
 clear HC15_
 have HQ : Aside0 (Kd.C (Kd.slice 61 k61) (w15.alloc (.cells #[.slice A15 1 c15] 40)) _ 1 [[iV 1]]) := ⟨C_lit rfl (blk_new _ _) (Reps.one (rowK HC15.out HL15.out) (Reps.none _ _)) (show 1 ≤ 1000 by decide)⟩
 clear HC15 HL15
 have HT := Aside0.mk (below_alloc HB.out (.cells #[.slice A15 1 c15] 40))
 clear HB
 have HB := HT
 clear HT
 go_wp2_with fail
 refine (tacticianref02_Equal.calls 20 _ _ [[iV 1]] _ _ [[iV 1]] true _ HX.out LHX.out HQ.out (Nat.le_refl _) (by decide +kernel)).mono ?_
 rintro e w16 ⟨rfl, hb16⟩
 replace hb16 := below_any hb16
 clear HQ
 have HX_ := Aside0.mk (Kd.C_below HX.out hb16)
 clear HX
 have HX := HX_
 clear HX_
 have HY_ := Aside0.mk (Kd.C_below HY.out hb16)
 clear HY
 have HY := HY_
 clear HY_
 have HZ_ := Aside0.mk (Kd.C_below HZ.out hb16)
 clear HZ
 have HZ := HZ_
 clear HZ_
 have HOO_ := Aside0.mk (Kd.C_below HOO.out hb16)
 clear HOO
 have HOO := HOO_
 clear HOO_
 have HT := Aside0.mk (below_step HB.out hb16)
 clear HB hb16
 have HB := HT
 clear HT
 clear HX LHX
 go_wp2_with fail
 refine (rowLit1 1 (w16) (by first | rfl | (go_simp; done) | (go_simp; rfl))).mono ?_
 rintro e w17 ⟨A17, c17, rfl, hl17, hC17, hb17⟩
 have HY_ := Aside0.mk (Kd.C_below HY.out hb17)
 clear HY
 have HY := HY_
 clear HY_
 have HZ_ := Aside0.mk (Kd.C_below HZ.out hb17)
 clear HZ
 have HZ := HZ_
 clear HZ_
 have HOO_ := Aside0.mk (Kd.C_below HOO.out hb17)
 clear HOO
 have HOO := HOO_
 clear HOO_
 have HT := Aside0.mk (below_step HB.out hb17)
 clear HB
 have HB := HT
 clear HT
 have HC17 := Aside0.mk hC17
 have HL17 := Aside0.mk hl17
 clear hC17 hl17 hb17
 go_wp2_with fail
 refine (rowLit1 2 (w17) (by first | rfl | (go_simp; done) | (go_simp; rfl))).mono ?_
 rintro e w18 ⟨A18, c18, rfl, hl18, hC18, hb18⟩
 have HY_ := Aside0.mk (Kd.C_below HY.out hb18)
 clear HY
 have HY := HY_
 clear HY_
 have HZ_ := Aside0.mk (Kd.C_below HZ.out hb18)
 clear HZ
 have HZ := HZ_
 clear HZ_
 have HOO_ := Aside0.mk (Kd.C_below HOO.out hb18)
 clear HOO
 have HOO := HOO_
 clear HOO_
 have HC17_ := Aside0.mk (Kd.C_below HC17.out hb18)
 clear HC17
 have HC17 := HC17_
 clear HC17_
 have HT := Aside0.mk (below_step HB.out hb18)
 clear HB
 have HB := HT
 clear HT
 have HC18 := Aside0.mk hC18
 have HL18 := Aside0.mk hl18
 clear hC18 hl18 hb18
 have HY_ := Aside0.mk (Kd.C_below HY.out (below_alloc (Below.refl _ _) (.cells #[.slice A17 1 c17, .slice A18 1 c18] 40)))
 clear HY
 have HY := HY_
 clear HY_
 have HZ_ := Aside0.mk (Kd.C_below HZ.out (below_alloc (Below.refl _ _) (.cells #[.slice A17 1 c17, .slice A18 1 c18] 40)))
 clear HZ
 have HZ := HZ_
 clear HZ_
 have HOO_ := Aside0.mk (Kd.C_below HOO.out (below_alloc (Below.refl _ _) (.cells #[.slice A17 1 c17, .slice A18 1 c18] 40)))
 clear HOO
 have HOO := HOO_
 clear HOO_
 have HC17_ := Aside0.mk (Kd.C_below HC17.out (below_alloc (Below.refl _ _) (.cells #[.slice A17 1 c17, .slice A18 1 c18] 40)))
 clear HC17
 have HC17 := HC17_
 clear HC17_
 have HC18_ := Aside0.mk (Kd.C_below HC18.out (below_alloc (Below.refl _ _) (.cells #[.slice A17 1 c17, .slice A18 1 c18] 40)))
 clear HC18
 have HC18 := HC18_
 clear HC18_
 have HQ : Aside0 (Kd.C (Kd.slice 61 k61) (w18.alloc (.cells #[.slice A17 1 c17, .slice A18 1 c18] 40)) _ 2 [[iV 1], [iV 2]]) := ⟨C_lit rfl (blk_new _ _) (Reps.one (rowK HC17.out HL17.out) (Reps.one (rowK HC18.out HL18.out) (Reps.none _ _))) (show 2 ≤ 1000 by decide)⟩
 clear HC17 HL17
 clear HC18 HL18
 have HT := Aside0.mk (below_alloc HB.out (.cells #[.slice A17 1 c17, .slice A18 1 c18] 40))
 clear HB
 have HB := HT
 clear HT
 go_wp2_with fail
 refine (tacticianref02_Equal.calls 20 _ _ [[iV 1], [iV 2]] _ _ [[iV 1], [iV 2]] true _ HY.out LHY.out HQ.out (Nat.le_refl _) (by decide +kernel)).mono ?_
 rintro e w19 ⟨rfl, hb19⟩
 replace hb19 := below_any hb19
 clear HQ
 have HY_ := Aside0.mk (Kd.C_below HY.out hb19)
 clear HY
 have HY := HY_
 clear HY_
 have HZ_ := Aside0.mk (Kd.C_below HZ.out hb19)
 clear HZ
 have HZ := HZ_
 clear HZ_
 have HOO_ := Aside0.mk (Kd.C_below HOO.out hb19)
 clear HOO
 have HOO := HOO_
 clear HOO_
 have HT := Aside0.mk (below_step HB.out hb19)
 clear HB hb19
 have HB := HT
 clear HT
 clear HY LHY
 go_wp2_with fail
 refine (rowLit1 2 (w19) (by first | rfl | (go_simp; done) | (go_simp; rfl))).mono ?_
 rintro e w20 ⟨A20, c20, rfl, hl20, hC20, hb20⟩
 have HZ_ := Aside0.mk (Kd.C_below HZ.out hb20)
 clear HZ
 have HZ := HZ_
 clear HZ_
 have HOO_ := Aside0.mk (Kd.C_below HOO.out hb20)
 clear HOO
 have HOO := HOO_
 clear HOO_
 have HT := Aside0.mk (below_step HB.out hb20)
 clear HB
 have HB := HT
 clear HT
 have HC20 := Aside0.mk hC20
 have HL20 := Aside0.mk hl20
 clear hC20 hl20 hb20
 have HZ_ := Aside0.mk (Kd.C_below HZ.out (below_alloc (Below.refl _ _) (.cells #[.slice A20 1 c20] 40)))
 clear HZ
 have HZ := HZ_
 clear HZ_
 have HOO_ := Aside0.mk (Kd.C_below HOO.out (below_alloc (Below.refl _ _) (.cells #[.slice A20 1 c20] 40)))
 clear HOO
 have HOO := HOO_
 clear HOO_
 have HC20_ := Aside0.mk (Kd.C_below HC20.out (below_alloc (Below.refl _ _) (.cells #[.slice A20 1 c20] 40)))
 clear HC20
 have HC20 := HC20_
 clear HC20_
 have HQ : Aside0 (Kd.C (Kd.slice 61 k61) (w20.alloc (.cells #[.slice A20 1 c20] 40)) _ 1 [[iV 2]]) := ⟨C_lit rfl (blk_new _ _) (Reps.one (rowK HC20.out HL20.out) (Reps.none _ _)) (show 1 ≤ 1000 by decide)⟩
 clear HC20 HL20
 have HT := Aside0.mk (below_alloc HB.out (.cells #[.slice A20 1 c20] 40))
 clear HB
 have HB := HT
 clear HT
 go_wp2_with fail
 refine (tacticianref02_Equal.calls 20 _ _ [[iV 2]] _ _ [[iV 2]] true _ HZ.out LHZ.out HQ.out (Nat.le_refl _) (by decide +kernel)).mono ?_
 rintro e w21 ⟨rfl, hb21⟩
 replace hb21 := below_any hb21
 clear HQ
 have HZ_ := Aside0.mk (Kd.C_below HZ.out hb21)
 clear HZ
 have HZ := HZ_
 clear HZ_
 have HOO_ := Aside0.mk (Kd.C_below HOO.out hb21)
 clear HOO
 have HOO := HOO_
 clear HOO_
 have HT := Aside0.mk (below_step HB.out hb21)
 clear HB hb21
 have HB := HT
 clear HT
 clear HZ LHZ
 go_wp2_with fail
 refine (rowLit2 1 2 (w21) (by first | rfl | (go_simp; done) | (go_simp; rfl))).mono ?_
 rintro e w22 ⟨A22, c22, rfl, hl22, hC22, hb22⟩
 have HOO_ := Aside0.mk (Kd.C_below HOO.out hb22)
 clear HOO
 have HOO := HOO_
 clear HOO_
 have HT := Aside0.mk (below_step HB.out hb22)
 clear HB
 have HB := HT
 clear HT
 have HC22 := Aside0.mk hC22
 have HL22 := Aside0.mk hl22
 clear hC22 hl22 hb22
 go_wp2_with fail
 refine (rowLit2 1 1 (w22) (by first | rfl | (go_simp; done) | (go_simp; rfl))).mono ?_
 rintro e w23 ⟨A23, c23, rfl, hl23, hC23, hb23⟩
 have HOO_ := Aside0.mk (Kd.C_below HOO.out hb23)
 clear HOO
 have HOO := HOO_
 clear HOO_
 have HC22_ := Aside0.mk (Kd.C_below HC22.out hb23)
 clear HC22
 have HC22 := HC22_
 clear HC22_
 have HT := Aside0.mk (below_step HB.out hb23)
 clear HB
 have HB := HT
 clear HT
 have HC23 := Aside0.mk hC23
 have HL23 := Aside0.mk hl23
 clear hC23 hl23 hb23
 go_wp2_with fail
 refine (rowLit2 2 1 (w23) (by first | rfl | (go_simp; done) | (go_simp; rfl))).mono ?_
 rintro e w24 ⟨A24, c24, rfl, hl24, hC24, hb24⟩
 have HOO_ := Aside0.mk (Kd.C_below HOO.out hb24)
 clear HOO
 have HOO := HOO_
 clear HOO_
 have HC22_ := Aside0.mk (Kd.C_below HC22.out hb24)
 clear HC22
 have HC22 := HC22_
 clear HC22_
 have HC23_ := Aside0.mk (Kd.C_below HC23.out hb24)
 clear HC23
 have HC23 := HC23_
 clear HC23_
 have HT := Aside0.mk (below_step HB.out hb24)
 clear HB
 have HB := HT
 clear HT
 have HC24 := Aside0.mk hC24
 have HL24 := Aside0.mk hl24
 clear hC24 hl24 hb24
 have HOO_ := Aside0.mk (Kd.C_below HOO.out (below_alloc (Below.refl _ _) (.cells #[.slice A22 2 c22, .slice A23 2 c23, .slice A24 2 c24] 40)))
 clear HOO
 have HOO := HOO_
 clear HOO_
 have HC22_ := Aside0.mk (Kd.C_below HC22.out (below_alloc (Below.refl _ _) (.cells #[.slice A22 2 c22, .slice A23 2 c23, .slice A24 2 c24] 40)))
 clear HC22
 have HC22 := HC22_
 clear HC22_
 have HC23_ := Aside0.mk (Kd.C_below HC23.out (below_alloc (Below.refl _ _) (.cells #[.slice A22 2 c22, .slice A23 2 c23, .slice A24 2 c24] 40)))
 clear HC23
 have HC23 := HC23_
 clear HC23_
 have HC24_ := Aside0.mk (Kd.C_below HC24.out (below_alloc (Below.refl _ _) (.cells #[.slice A22 2 c22, .slice A23 2 c23, .slice A24 2 c24] 40)))
 clear HC24
 have HC24 := HC24_
 clear HC24_
 have HQ : Aside0 (Kd.C (Kd.slice 61 k61) (w24.alloc (.cells #[.slice A22 2 c22, .slice A23 2 c23, .slice A24 2 c24] 40)) _ 3 [[iV 1, iV 2], [iV 1, iV 1], [iV 2, iV 1]]) := ⟨C_lit rfl (blk_new _ _) (Reps.one (rowK HC22.out HL22.out) (Reps.one (rowK HC23.out HL23.out) (Reps.one (rowK HC24.out HL24.out) (Reps.none _ _)))) (show 3 ≤ 1000 by decide)⟩
 clear HC22 HL22
 clear HC23 HL23
 clear HC24 HL24
 have HT := Aside0.mk (below_alloc HB.out (.cells #[.slice A22 2 c22, .slice A23 2 c23, .slice A24 2 c24] 40))
 clear HB
 have HB := HT
 clear HT
 go_wp2_with fail
 refine (tacticianref02_Equal.calls 20 _ _ [[iV 1, iV 2], [iV 1, iV 1], [iV 2, iV 1]] _ _ [[iV 1, iV 2], [iV 1, iV 1], [iV 2, iV 1]] true _ HOO.out LHOO.out HQ.out (Nat.le_refl _) (by decide +kernel)).mono ?_
 rintro e w25 ⟨rfl, hb25⟩
 replace hb25 := below_any hb25
 clear HQ
 have HOO_ := Aside0.mk (Kd.C_below HOO.out hb25)
 clear HOO
 have HOO := HOO_
 clear HOO_
 have HT := Aside0.mk (below_step HB.out hb25)
 clear HB hb25
 have HB := HT
 clear HT
 clear HOO LHOO
 go_wp2
 go_ret
 exact ⟨rfl, HB.out⟩
end
end Go.Proofs.YtmhobbdedmjmnaaGreatDoor.Q
end
