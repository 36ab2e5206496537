/- Lemmas for the claim: contracts of functions and facts about what they compute, part 8 (texts put together, and cut down to what is used, by a program of ours). -/
import Derived.Test.YtmhobbdedmjmnaaGreatDoorMGroups6
section
/- Each function reached is shown to return what the plain function beside it computes, wherever that is defined (written by a program of ours for this seat). -/
namespace Go.Proofs.YtmhobbdedmjmnaaGreatDoor.Q
open Go.RowKit Go.Proofs.YtmhobbdedmjmnaaGreatDoorW.PrintWords Go.Proofs.YtmhobbdedmjmnaaGreatDoorW.PrintLast Go.Proofs.YtmhobbdedmjmnaaGreatDoorW.PrintMore
attribute [local go_sem] max2_int min2_int max_two min_two max_three min_three max_four min_four   -- for this text's walks alone
set_option linter.unusedVariables false
set_option linter.unusedSimpArgs false
def tacticianref02_Distinct.l0 : Nat → List (List (S61)) → List (List (S61)) → Int → Option ((List (List (S61))))
  | 0, _, _, _ => none
  | k + 1, x3, x4, x5 => if x5 < (x3.length : Int) then (if x5 = 0 then (if 0 ≤ x5 then (if x4.length < 5864062014805 then (tacticianref02_Distinct.l0 k x3 (x4 ++ [rd_L3 x3 x5]) (wrap64 (x5 + 1))) else (none)) else (none)) else (if 0 ≤ x5 then (if 0 ≤ (wrap64 (x5 - 1)) then (if (wrap64 (x5 - 1)) < (x3.length : Int) then ((tacticianref02_Compare.f k (rd_L3 x3 x5) (rd_L3 x3 (wrap64 (x5 - 1)))).bind fun t233 => (if t233 = 0 then (tacticianref02_Distinct.l0 k x3 x4 (wrap64 (x5 + 1))) else (if x4.length < 5864062014805 then (tacticianref02_Distinct.l0 k x3 (x4 ++ [rd_L3 x3 x5]) (wrap64 (x5 + 1))) else (none)))) else (none)) else (none)) else (none))) else (some x4)
def tacticianref02_Distinct.f (k : Nat) (l0 : List (List (S61))) : Option ((List (List (S61)))) := (tacticianref02_Canonical.f k l0).bind fun t224 => (tacticianref02_Distinct.l0 k t224 ([] : List (List (S61))) 0)
def tacticianref02_Distinct.T6 : Bool × List (List Nat × List Nat) := (true, [([], []), ([0], [0]), ([1], [1]), ([2], [2]), ([2], [2]), ([3, 4, 2], [2, 3, 4]), ([5, 2], [2, 5]), ([2], [2]), ([2], [2]), ([8, 2], [2, 8]), ([7, 9, 2], [2, 7, 9]), ([10, 2], [2, 10]), ([6, 11, 2, 2], [2, 6, 11]), ([12, 2], [2, 12]), ([2, 13], [2, 13])])
def tacticianref02_Distinct.B6 : List Nat := [0, 1, 3, 7, 7, 31, 63, 7, 7, 263, 903, 1927, 4095, 8191, 16383]
theorem tacticianref02_Distinct.tab6 : rtab .any (opsOf Tryz.f46 6) = tacticianref02_Distinct.T6 := by kernel_rfl
theorem tacticianref02_Distinct.bits6 : waitsOk tacticianref02_Distinct.T6.2 tacticianref02_Distinct.B6 = true := by kernel_rfl
set_option maxHeartbeats 8000000 in
set_option maxRecDepth 100000 in
theorem tacticianref02_Distinct.calls (k : Nat) (A0 : Option Addr) (c0 : Nat) (l0 : List (List (S61))) (r : List (List (S61))) (w : World) (hr0 : Kd.C (Kd.slice 61 k61) w A0 l0.length l0) (hc0 : l0.length ≤ c0) (h : tacticianref02_Distinct.f k l0 = some r) :
  Calls Tryz.prog 46 #[.slice A0 l0.length c0] w fun e w' => ∃ v0_ : Value, e = .returned (v0_) ∧ Kd.N (Kd.slice 61 k61) 40 w' w.heap.size (fun k_ => (w.heap.size ≤ k_)) v0_ r ∧ Below w.heap.size w w' := by
 have HR0 := Aside0.mk hr0
 have HC0 := Aside0.mk hc0
 clear hr0 hc0
 have HB := Aside0.mk (Below.refl w.heap.size w)
 have H : ((tacticianref02_Canonical.f k l0).bind fun t224 => (tacticianref02_Distinct.l0 k t224 ([] : List (List (S61))) 0)) = some r := h
 clear h
 replace H := Option.bind_eq_some_iff.mp H
 obtain ⟨t224, A20, H⟩ := H
 replace H : (tacticianref02_Distinct.l0 k t224 ([] : List (List (S61))) 0) = some r := H
 have A2 := Aside0.mk A20
 clear A20
 have H' := Aside0.mk H
 clear H
 go_enter Tryz.func46, Tryz.ntmps46
 go_wp2_with (first | ((with_reducible refine gate_callee (f := 30) rfl ?_); refine goesL_ (some 7) rfl rfl Tryz.func30 (by kernel_rfl) rfl #[.slice A0 l0.length c0] rfl (by (try simp only [List.map_toArray, List.map_cons, List.map_nil]); first | done | rfl | (simp only [List.length_drop, List.length_take]; rfl)) ?_; (with_reducible refine (tacticianref02_Canonical.calls k _ _ l0 t224 _ ?side1 ?side2 A2.out).mono ?_); (case side1 => repeat (first | exact HR0.out | (with_reducible refine Kd.C_alloc ?_ _) | (with_reducible refine Kd.C_drewN ?_ _) | (with_reducible refine Kd.C_drew ?_))); (case side2 => exact HC0.out); rintro e w3 ⟨v225, rfl, ho0, hb⟩; refine ⟨_, rfl, ?_⟩; have n0_ := Aside0.mk (Kd.N_lower (Kd.N_mono (ok' := fun k_ => (w.heap.size ≤ k_)) ho0 (fun k_ hk_ => (Nat.le_trans (below_size (by repeat (first | (with_reducible first | exact HB.out | apply yA | apply yN | apply yD) | exact HB.out))) hk_))) (below_size (by repeat (first | (with_reducible first | exact HB.out | apply yA | apply yN | apply yD) | exact HB.out)))); have n1_ := Aside0.mk (below_step (by repeat (first | (with_reducible first | exact HB.out | apply yA | apply yN | apply yD) | exact HB.out)) hb); clear HB; have HO226 := n0_; have HB := n1_; clear n0_ n1_; (try clear hb); (try clear hb2); (try clear hk); (try clear hi); (try clear ho0)))
 go_loopg [4, 5] k (fun kq v4 v5 w' => ∃ (x4_1 : List (List (S61))) (x5_1 : Int), v5 = .int .i64 x5_1 ∧ Aside0 (tacticianref02_Distinct.l0 kq t224 x4_1 x5_1 = some r) ∧ Aside0 (kq ≤ k) ∧ Aside0 (Kd.N (Kd.slice 61 k61) 40 w' w.heap.size (fun k_ => (w.heap.size ≤ k_) ∧ some k_ ≠ (v4 : Value).ownBlock) v225 t224) ∧ Aside0 (Kd.N (Kd.slice 61 k61) 40 w' w.heap.size (fun k_ => (w.heap.size ≤ k_) ∧ some k_ ≠ (v225 : Value).ownBlock) v4 x4_1) ∧ Aside0 (Below w.heap.size w w'))
 case atStart => exact ⟨(([] : List (List (S61)))), (0), (by first | rfl | (simp; done) | (simp [*]; done)), H', ⟨Nat.le_refl _⟩, ⟨by (with_reducible repeat (first | apply Kd.N_alloc | apply Kd.N_drewN | apply Kd.N_drew)); exact Kd.N_mono HO226.out (fun _ hk => ⟨hk, (by simp [Value.ownBlock])⟩)⟩, ⟨by first | exact Kd.S_nil _ _ _ _ _ | exact Kd.N_nil _ _ _ _ _ | exact Kd.V_nil _ _ _ _ _ | exact Kd.Q_nil _ _ _ _ _ | exact Kd.R_nil _ _ _ _ _⟩, ⟨by repeat (first | (with_reducible first | exact HB.out | apply yA | apply yN | apply yD) | exact HB.out)⟩⟩
 case round =>
  clear H'
  try clear p2
  try clear c3
  obtain ⟨x4_1, x5_1, rfl, HA, HK1, HO_3, HO_4, HB⟩ := hrel
  cases gk with
  | zero => exact absurd HA.out (by simp [tacticianref02_Distinct.l0])
  | succ k1 =>
   have H := HA.out
   clear HA
   simp only [tacticianref02_Distinct.l0] at H
   by_cases c4 : x5_1 < (t224.length : Int)
   ·rw [if_pos c4] at H
    have c4b0 : decide (x5_1 < (t224.length : Int)) = true := decide_eq_true c4
    clear c4
    by_cases c5 : x5_1 = 0
    ·rw [if_pos c5] at H
     have c5b0 : (x5_1 == 0) = true := beq_iff_eq.mpr c5
     have c5b1 : (x5_1 != 0) = false := bne_eq_false_iff_eq.mpr c5
     clear c5
     by_cases c6 : 0 ≤ x5_1
     ·rw [if_pos c6] at H
      have c6b0 : decide (0 ≤ x5_1) = true := decide_eq_true c6
      clear c6
      by_cases c7 : x4_1.length < 5864062014805
      ·rw [if_pos c7] at H
       have LMc7 := Aside0.mk c7
       clear c7
       obtain ⟨y228, hy228⟩ : ∃ y_ : List (List (S61)), y_ = (x4_1 ++ [rd_L3 t224 x5_1]) := ⟨_, rfl⟩
       replace H : (tacticianref02_Distinct.l0 k1 t224 y228 (wrap64 (x5_1 + 1))) = some r := by first | (rw [hy228]; with_reducible exact H) | (have H2_ := (Option.bind_some _ _).symm.trans H; rw [hy228]; with_reducible exact H2_) | (have H2_ := (Option.bind_some _ _).symm.trans H; with_reducible exact H2_) | with_reducible exact H | (rw [hy228]; exact H) | exact H
       have Ny228 := Aside0.mk hy228
       clear hy228
       have H' := Aside0.mk H
       clear H
       obtain ⟨Ao8, co8, eo8⟩ := Kd.N_slice HO_3.out
       subst eo8
       try go_wp2
       have n0_ := Aside0.mk (Kd.N_drew HO_3.out)
       have n1_ := Aside0.mk (Kd.N_drew HO_4.out)
       have n2_ := Aside0.mk (below_drew1 HB.out)
       clear HO_3
       clear HO_4
       clear HB
       have HO_3 := n0_
       have HO_4 := n1_
       have HB := n2_
       clear n0_ n1_ n2_
       refine start_ (n := 15) (S := fun w' => True) (ds := []) #[false, false, false, false, false, false, false, false, false, false, false, false, false, false, false] (by kernel_rfl) rfl rfl trivial (fun hHeld => ?_); refine with_tabW tacticianref02_Distinct.tab6 tacticianref02_Distinct.bits6 (fun HT_ HW_ => ?_)
       generalize wr.drew = w9 at HO_3 HO_4 HB hHeld ⊢
       refine pure_ (i := 0) (N := some 14) (v := ?_) (a' := ?_) #[true, false, false, false, false, false, false, false, false, false, false, false, false, false, false] rfl rfl (any_of HT_.out (by kernel_rfl)) (fun _ _ _ h => h) (Or.inl ⟨by rfl, ?_⟩) ?_ ?_
       rotate_left
       ·intro w'
        go_simp
        with_reducible rfl
       rotate_left
       ·simp only [Act.put, List.setIfInBounds_toArray, List.set_cons_zero, List.set_cons_succ, i64_w, i32_w]
        rfl
       refine pure_ (i := 1) (N := some 15) (v := ?_) (a' := ?_) #[true, true, false, false, false, false, false, false, false, false, false, false, false, false, false] rfl rfl (any_of HT_.out (by kernel_rfl)) (fun _ _ _ h => h) (Or.inl ⟨by rfl, ?_⟩) ?_ ?_
       rotate_left
       ·intro w'
        go_simp
        with_reducible rfl
       rotate_left
       ·simp only [Act.put, List.setIfInBounds_toArray, List.set_cons_zero, List.set_cons_succ, i64_w, i32_w]
        rfl
       refine pure_ (i := 2) (N := some 16) (v := ?_) (a' := ?_) #[true, true, true, false, false, false, false, false, false, false, false, false, false, false, false] rfl rfl (any_of HT_.out (by kernel_rfl)) (fun _ _ _ h => h) (Or.inl ⟨by rfl, ?_⟩) ?_ ?_
       rotate_left
       ·intro w'
        go_simp
        with_reducible rfl
       rotate_left
       ·simp only [Act.put, List.setIfInBounds_toArray, List.set_cons_zero, List.set_cons_succ, i64_w, i32_w]
        rfl
       refine pure_ (i := 3) (N := some 17) (v := undef) (a' := ?_) #[true, true, true, true, false, false, false, false, false, false, false, false, false, false, false] rfl rfl (any_of HT_.out (by kernel_rfl)) (fun _ _ _ h => h) (Or.inr ⟨by rfl, rfl⟩) ?_ ?_
       rotate_left
       ·simp only [Act.put, List.setIfInBounds_toArray, List.set_cons_zero, List.set_cons_succ, i64_w, i32_w]
        rfl
       refine pure_ (i := 4) (N := some 18) (v := undef) (a' := ?_) #[true, true, true, true, true, false, false, false, false, false, false, false, false, false, false] rfl rfl (any_of HT_.out (by kernel_rfl)) (fun _ _ _ h => h) (Or.inr ⟨by rfl, rfl⟩) ?_ ?_
       rotate_left
       ·simp only [Act.put, List.setIfInBounds_toArray, List.set_cons_zero, List.set_cons_succ, i64_w, i32_w]
        rfl
       refine pure_ (i := 5) (N := some 19) (v := undef) (a' := ?_) #[true, true, true, true, true, true, false, false, false, false, false, false, false, false, false] rfl rfl (any_of HT_.out (by kernel_rfl)) (fun _ _ _ h => h) (Or.inr ⟨by rfl, rfl⟩) ?_ ?_
       rotate_left
       ·simp only [Act.put, List.setIfInBounds_toArray, List.set_cons_zero, List.set_cons_succ, i64_w, i32_w]
        rfl
       refine pure_ (i := 6) (N := some 20) (v := undef) (a' := ?_) #[true, true, true, true, true, true, true, false, false, false, false, false, false, false, false] rfl rfl (any_of HT_.out (by kernel_rfl)) (fun _ _ _ h => h) (Or.inr ⟨by rfl, rfl⟩) ?_ ?_
       rotate_left
       ·simp only [Act.put, List.setIfInBounds_toArray, List.set_cons_zero, List.set_cons_succ, i64_w, i32_w]
        rfl
       refine pure_ (i := 7) (N := some 21) (v := undef) (a' := ?_) #[true, true, true, true, true, true, true, true, false, false, false, false, false, false, false] rfl rfl (any_of HT_.out (by kernel_rfl)) (fun _ _ _ h => h) (Or.inr ⟨by rfl, rfl⟩) ?_ ?_
       rotate_left
       ·simp only [Act.put, List.setIfInBounds_toArray, List.set_cons_zero, List.set_cons_succ, i64_w, i32_w]
        rfl
       refine pure_ (i := 8) (N := some 22) (v := undef) (a' := ?_) #[true, true, true, true, true, true, true, true, true, false, false, false, false, false, false] rfl rfl (any_of HT_.out (by kernel_rfl)) (fun _ _ _ h => h) (Or.inr ⟨by rfl, rfl⟩) ?_ ?_
       rotate_left
       ·simp only [Act.put, List.setIfInBounds_toArray, List.set_cons_zero, List.set_cons_succ, i64_w, i32_w]
        rfl
       refine pure_ (i := 9) (N := some 23) (v := undef) (a' := ?_) #[true, true, true, true, true, true, true, true, true, true, false, false, false, false, false] rfl rfl (any_of HT_.out (by kernel_rfl)) (fun _ _ _ h => h) (Or.inr ⟨by rfl, rfl⟩) ?_ ?_
       rotate_left
       ·simp only [Act.put, List.setIfInBounds_toArray, List.set_cons_zero, List.set_cons_succ, i64_w, i32_w]
        rfl
       refine pure_ (i := 10) (N := some 24) (v := undef) (a' := ?_) #[true, true, true, true, true, true, true, true, true, true, true, false, false, false, false] rfl rfl (any_of HT_.out (by kernel_rfl)) (fun _ _ _ h => h) (Or.inr ⟨by rfl, rfl⟩) ?_ ?_
       rotate_left
       ·simp only [Act.put, List.setIfInBounds_toArray, List.set_cons_zero, List.set_cons_succ, i64_w, i32_w]
        rfl
       refine pure_ (i := 11) (N := some 25) (v := undef) (a' := ?_) #[true, true, true, true, true, true, true, true, true, true, true, true, false, false, false] rfl rfl (any_of HT_.out (by kernel_rfl)) (fun _ _ _ h => h) (Or.inr ⟨by rfl, rfl⟩) ?_ ?_
       rotate_left
       ·simp only [Act.put, List.setIfInBounds_toArray, List.set_cons_zero, List.set_cons_succ, i64_w, i32_w]
        rfl
       refine pure_ (i := 12) (N := some 26) (v := undef) (a' := ?_) #[true, true, true, true, true, true, true, true, true, true, true, true, true, false, false] rfl rfl (any_of HT_.out (by kernel_rfl)) (fun _ _ _ h => h) (Or.inr ⟨by rfl, rfl⟩) ?_ ?_
       rotate_left
       ·simp only [Act.put, List.setIfInBounds_toArray, List.set_cons_zero, List.set_cons_succ, i64_w, i32_w]
        rfl
       refine pure_ (i := 13) (N := some 27) (v := undef) (a' := ?_) #[true, true, true, true, true, true, true, true, true, true, true, true, true, true, false] rfl rfl (any_of HT_.out (by kernel_rfl)) (fun _ _ _ h => h) (Or.inr ⟨by rfl, rfl⟩) ?_ ?_
       rotate_left
       ·simp only [Act.put, List.setIfInBounds_toArray, List.set_cons_zero, List.set_cons_succ, i64_w, i32_w]
        rfl
       refine pure_ (i := 14) (N := some 28) (v := ?_) (a' := ?_) #[true, true, true, true, true, true, true, true, true, true, true, true, true, true, true] rfl rfl (any_of HT_.out (by kernel_rfl)) (fun _ _ _ h => h) (Or.inl ⟨by rfl, ?_⟩) ?_ ?_
       rotate_left
       ·intro w'
        go_simp
        with_reducible rfl
       rotate_left
       ·simp only [Act.put, List.setIfInBounds_toArray, List.set_cons_zero, List.set_cons_succ, i64_w, i32_w]
        rfl
       refine done_ (done_of HT_.out (by kernel_rfl)) ?_
       have p227 : 0 ≤ (x5_1 : Int) := of_decide_eq_true (by first | (with_reducible assumption) | assumption)
       have q227 : x5_1 < (t224.length : Int) := of_decide_eq_true (by first | (with_reducible assumption) | assumption)
       obtain ⟨ad227, A227_0, c227_0, e227, hx227_0, hl227_0, hi227_0⟩ := at_L3 (Kd.N_reads' HO_3.out).2.2 x5_1 p227 q227
       cases e227
       obtain ⟨ce227, hce227, hMe227, hcc227⟩ := Kd.N_get HO_3.out [] x5_1 p227 (by first | exact q227 | exact of_decide_eq_true (by first | (with_reducible assumption) | assumption) | (have e_ := (Kd.N_reads' HO_3.out).1; omega))
       obtain ⟨ua227_0, uc227_0, rfl, ul227_0, ge227_0⟩ := Kd.FK_slice_open hMe227
       have hv227_0 := hcc227 0 _ rfl
       rw [Nat.add_zero, show ((Kd.slice 61 k61)).sz = 1 from rfl, Nat.mul_one] at hv227_0
       replace hv227_0 := Option.some.inj (hv227_0.symm.trans hx227_0)
       injection hv227_0 with hva_ hvn_ hvc_
       rw [hva_] at ge227_0
       rw [hvc_] at ul227_0
       have HL227_0 := Aside0.mk (show Kd.V k61 61 _ w.heap.size _ _ (rd_L3 t224 x5_1) from Kd.V_mk ul227_0 ge227_0)
       clear hva_ hvn_ hvc_ ge227_0 ul227_0
       clear hcc227 hce227
       have HR227_0 := Aside0.mk hi227_0
       have HC227_0 := Aside0.mk hl227_0
       clear hi227_0 hl227_0
       replace p227 := eq_true p227
       replace q227 := eq_true q227
       try go_wp2_with (first | ((with_reducible refine gate_builtin (b := .append) (xs := #[.tmp 29, .tmp 34]) rfl ?_); at_builtin; refine Kd.N_append (Kd.slice 61 k61) (w0 := w) w.heap.size rfl (.tmp 29) (.tmp 34) 22 40 (.slice none 0 0) 24 rfl Tryz.underlying22 info40 rfl (by decide) (by omega) u4 x4_1 (rd_L3 t224 x5_1) [.slice A227_0 (rd_L3 t224 x5_1).length c227_0] (fun k_ => (w.heap.size ≤ k_) ∧ some k_ ≠ (.slice (some ad227) t224.length co8 : Value).ownBlock) (fun k_ => ((fun k_ => (w.heap.size ≤ k_) ∧ some k_ ≠ (.slice (some ad227) t224.length co8 : Value).ownBlock)) k_ ∧ some k_ ≠ (u4 : Value).ownBlock) rfl rfl ?aP (fun _ hk => hk) ?aF ?aO ?aB ?aS ?aL ?_; (case aP => exact (Kd.FK_slice_mk (Kd.V_reads' (Kd.V_mono (ok' := (fun k_ => ((fun k_ => (w.heap.size ≤ k_) ∧ some k_ ≠ (.slice (some ad227) t224.length co8 : Value).ownBlock)) k_ ∧ some k_ ≠ (u4 : Value).ownBlock)) (HL227_0.out) (fun k_ hk => ⟨⟨hk.1.1, hk.2⟩, hk.1.2⟩))).2.1 (Kd.V_F (Kd.V_mono (ok' := (fun k_ => ((fun k_ => (w.heap.size ≤ k_) ∧ some k_ ≠ (.slice (some ad227) t224.length co8 : Value).ownBlock)) k_ ∧ some k_ ≠ (u4 : Value).ownBlock)) (HL227_0.out) (fun k_ hk => ⟨⟨hk.1.1, hk.2⟩, hk.1.2⟩))))); (case aB => exact (by repeat (first | (with_reducible first | exact HB.out | apply yA | apply yN | apply yD) | exact HB.out))); (case aF => exact (fun k_ hk => ⟨(Nat.le_trans (below_size (by repeat (first | (with_reducible first | exact HB.out | apply yA | apply yN | apply yD) | exact HB.out))) hk), Kd.fresh' (Kd.N_lt (by (with_reducible repeat (first | apply Kd.N_alloc | apply Kd.N_drewN | apply Kd.N_drew)); exact HO_3.out)) k_ hk⟩)); (case aO => exact (by (with_reducible repeat (first | apply Kd.N_alloc | apply Kd.N_drewN | apply Kd.N_drew)); exact HO_4.out)); (case aS => exact (below_size (by repeat (first | (with_reducible first | exact HB.out | apply yA | apply yN | apply yD) | exact HB.out)))); (case aL => have := LMc7.out; omega); intro v229 w10 ho hb hg hat; rw [← Ny228.out] at ho; have n0_ := Aside0.mk (Kd.N_afterv (ok := (fun k_ => (w.heap.size ≤ k_))) (by (with_reducible repeat (first | apply Kd.N_alloc | apply Kd.N_drewN | apply Kd.N_drew)); exact HO_3.out) hg hat); have n1_ := Aside0.mk (Kd.V_afterv (ok := (fun k_ => (w.heap.size ≤ k_) ∧ some k_ ≠ (.slice (some ad227) t224.length co8 : Value).ownBlock)) (by (with_reducible repeat (first | apply Kd.V_alloc | apply Kd.V_drewN | apply Kd.V_drew)); exact Kd.V_mono HL227_0.out (fun _ hk => ⟨⟨hk.1.1, hk.2⟩, hk.1.2⟩)) hg hat); have n2_ := Aside0.mk (hb); have n3_ := Aside0.mk (ho); clear HO_3; clear HL227_0; clear HB; clear HO_4; have HO_3 := n0_; have HL227_0 := n1_; have HB := n2_; have HO230 := n3_; clear n0_ n1_ n2_ n3_; clear ho hb hg hat))
       go_roundg k1
       case measure => have := HK1.out; omega
       case rel => exact ⟨(y228), (wrap64 (x5_1 + 1)), (by first | rfl | (simp; done) | (simp [*]; done)), H', ⟨by have := HK1.out; omega⟩, ⟨by (with_reducible repeat (first | apply Kd.N_alloc | apply Kd.N_drewN | apply Kd.N_drew)); exact HO_3.out⟩, ⟨by (with_reducible repeat (first | apply Kd.N_alloc | apply Kd.N_drewN | apply Kd.N_drew)); exact HO230.out⟩, ⟨by repeat (first | (with_reducible first | exact HB.out | apply yA | apply yN | apply yD) | exact HB.out)⟩⟩
      ·rw [if_neg c7] at H
       exact absurd H (by simp)
     ·rw [if_neg c6] at H
      exact absurd H (by simp)
    ·rw [if_neg c5] at H
     have c5b0 : (x5_1 == 0) = false := beq_eq_false_iff_ne.mpr c5
     have c5b1 : (x5_1 != 0) = true := bne_iff_ne.mpr c5
     by_cases c11 : 0 ≤ x5_1
     ·rw [if_pos c11] at H
      have c11b0 : decide (0 ≤ x5_1) = true := decide_eq_true c11
      clear c11
      obtain ⟨ji12, hji12⟩ : ∃ j_ : Int, (wrap64 (x5_1 - 1)) = j_ := ⟨_, rfl⟩
      replace H : (if 0 ≤ (ji12) then (if (ji12) < (t224.length : Int) then ((tacticianref02_Compare.f k1 (rd_L3 t224 x5_1) (rd_L3 t224 (ji12))).bind fun t233 => (if t233 = 0 then (tacticianref02_Distinct.l0 k1 t224 x4_1 (wrap64 (x5_1 + 1))) else (if x4_1.length < 5864062014805 then (tacticianref02_Distinct.l0 k1 t224 (x4_1 ++ [rd_L3 t224 x5_1]) (wrap64 (x5_1 + 1))) else (none)))) else (none)) else (none)) = some r := by first | (rw [hji12] at H; exact H) | (simp only [hji12] at H ⊢; exact H)
      have hji12w : (IntKind.i64.wrap (x5_1 - 1)) = ji12 := (i64_w _).trans hji12
      by_cases c13 : 0 ≤ (ji12)
      ·rw [if_pos c13] at H
       have c13b0 : decide (0 ≤ (ji12)) = true := decide_eq_true c13
       clear c13
       by_cases c14 : (ji12) < (t224.length : Int)
       ·rw [if_pos c14] at H
        have c14b0 : decide ((ji12) < (t224.length : Int)) = true := decide_eq_true c14
        clear c14
        replace H := Option.bind_eq_some_iff.mp H
        obtain ⟨t233, A150, H⟩ := H
        replace H : (if t233 = 0 then (tacticianref02_Distinct.l0 k1 t224 x4_1 (wrap64 (x5_1 + 1))) else (if x4_1.length < 5864062014805 then (tacticianref02_Distinct.l0 k1 t224 (x4_1 ++ [rd_L3 t224 x5_1]) (wrap64 (x5_1 + 1))) else (none))) = some r := H
        have A15 := Aside0.mk A150
        clear A150
        by_cases c16 : t233 = 0
        ·rw [if_pos c16] at H
         have c16b0 : (t233 == 0) = true := beq_iff_eq.mpr c16
         have c16b1 : (t233 != 0) = false := bne_eq_false_iff_eq.mpr c16
         clear c16
         have H' := Aside0.mk H
         clear H
         obtain ⟨Ao17, co17, eo17⟩ := Kd.N_slice HO_3.out
         subst eo17
         try go_wp2
         have n0_ := Aside0.mk (Kd.N_drew HO_3.out)
         have n1_ := Aside0.mk (Kd.N_drew HO_4.out)
         have n2_ := Aside0.mk (below_drew1 HB.out)
         clear HO_3
         clear HO_4
         clear HB
         have HO_3 := n0_
         have HO_4 := n1_
         have HB := n2_
         clear n0_ n1_ n2_
         have p231 : 0 ≤ (x5_1 : Int) := of_decide_eq_true (by first | (with_reducible assumption) | assumption)
         have q231 : x5_1 < (t224.length : Int) := of_decide_eq_true (by first | (with_reducible assumption) | assumption)
         obtain ⟨ad231, A231_0, c231_0, e231, hx231_0, hl231_0, hi231_0⟩ := at_L3 (Kd.N_reads' HO_3.out).2.2 x5_1 p231 q231
         cases e231
         obtain ⟨ce231, hce231, hMe231, hcc231⟩ := Kd.N_get HO_3.out [] x5_1 p231 (by first | exact q231 | exact of_decide_eq_true (by first | (with_reducible assumption) | assumption) | (have e_ := (Kd.N_reads' HO_3.out).1; omega))
         obtain ⟨ua231_0, uc231_0, rfl, ul231_0, ge231_0⟩ := Kd.FK_slice_open hMe231
         have hv231_0 := hcc231 0 _ rfl
         rw [Nat.add_zero, show ((Kd.slice 61 k61)).sz = 1 from rfl, Nat.mul_one] at hv231_0
         replace hv231_0 := Option.some.inj (hv231_0.symm.trans hx231_0)
         injection hv231_0 with hva_ hvn_ hvc_
         rw [hva_] at ge231_0
         rw [hvc_] at ul231_0
         have HL231_0 := Aside0.mk (show Kd.V k61 61 _ w.heap.size _ _ (rd_L3 t224 x5_1) from Kd.V_mk ul231_0 ge231_0)
         clear hva_ hvn_ hvc_ ge231_0 ul231_0
         clear hcc231 hce231
         have HR231_0 := Aside0.mk hi231_0
         have HC231_0 := Aside0.mk hl231_0
         clear hi231_0 hl231_0
         replace p231 := eq_true p231
         replace q231 := eq_true q231
         have p232 : 0 ≤ ((ji12) : Int) := of_decide_eq_true (by first | (with_reducible assumption) | assumption)
         have q232 : (ji12) < (t224.length : Int) := of_decide_eq_true (by first | (with_reducible assumption) | assumption)
         obtain ⟨ad232, A232_0, c232_0, e232, hx232_0, hl232_0, hi232_0⟩ := at_L3 (Kd.N_reads' HO_3.out).2.2 (ji12) p232 q232
         obtain rfl : ad231 = ad232 := (by injection e232)
         obtain ⟨ce232, hce232, hMe232, hcc232⟩ := Kd.N_get HO_3.out [] (ji12) p232 (by first | exact q232 | exact of_decide_eq_true (by first | (with_reducible assumption) | assumption) | (have e_ := (Kd.N_reads' HO_3.out).1; omega))
         obtain ⟨ua232_0, uc232_0, rfl, ul232_0, ge232_0⟩ := Kd.FK_slice_open hMe232
         have hv232_0 := hcc232 0 _ rfl
         rw [Nat.add_zero, show ((Kd.slice 61 k61)).sz = 1 from rfl, Nat.mul_one] at hv232_0
         replace hv232_0 := Option.some.inj (hv232_0.symm.trans hx232_0)
         injection hv232_0 with hva_ hvn_ hvc_
         rw [hva_] at ge232_0
         rw [hvc_] at ul232_0
         have HL232_0 := Aside0.mk (show Kd.V k61 61 _ w.heap.size _ _ (rd_L3 t224 (ji12)) from Kd.V_mk ul232_0 ge232_0)
         clear hva_ hvn_ hvc_ ge232_0 ul232_0
         clear hcc232 hce232
         have HR232_0 := Aside0.mk hi232_0
         have HC232_0 := Aside0.mk hl232_0
         clear hi232_0 hl232_0
         replace p232 := eq_true p232
         replace q232 := eq_true q232
         refine start_ (n := 15) (S := fun w' => w'.cell? (ad231.add (x5_1).toNat) = some (.slice A231_0 (rd_L3 t224 x5_1).length c231_0) ∧ w'.cell? (ad231.add ((ji12)).toNat) = some (.slice A232_0 (rd_L3 t224 (ji12)).length c232_0)) (ds := []) #[false, false, false, false, false, false, false, false, false, false, false, false, false, false, false] (by kernel_rfl) rfl rfl ⟨hx231_0, hx232_0⟩ (fun hHeld => ?_); refine with_tabW tacticianref02_Distinct.tab6 tacticianref02_Distinct.bits6 (fun HT_ HW_ => ?_)
         generalize wr.drew = w18 at HO_3 HO_4 HB HL231_0 HL232_0 HR231_0 HR232_0 hx231_0 hx232_0 hHeld ⊢
         refine pure_ (i := 0) (N := some 14) (v := ?_) (a' := ?_) #[true, false, false, false, false, false, false, false, false, false, false, false, false, false, false] rfl rfl (any_of HT_.out (by kernel_rfl)) (fun _ _ _ h => h) (Or.inl ⟨by rfl, ?_⟩) ?_ ?_
         rotate_left
         ·intro w'
          go_simp
          with_reducible rfl
         rotate_left
         ·simp only [Act.put, List.setIfInBounds_toArray, List.set_cons_zero, List.set_cons_succ, i64_w, i32_w]
          rfl
         refine pure_ (i := 1) (N := some 15) (v := ?_) (a' := ?_) #[true, true, false, false, false, false, false, false, false, false, false, false, false, false, false] rfl rfl (any_of HT_.out (by kernel_rfl)) (fun _ _ _ h => h) (Or.inl ⟨by rfl, ?_⟩) ?_ ?_
         rotate_left
         ·intro w'
          go_simp
          with_reducible rfl
         rotate_left
         ·simp only [Act.put, List.setIfInBounds_toArray, List.set_cons_zero, List.set_cons_succ, i64_w, i32_w]
          rfl
         refine pure_ (i := 2) (N := some 16) (v := ?_) (a' := ?_) #[true, true, true, false, false, false, false, false, false, false, false, false, false, false, false] rfl rfl (any_of HT_.out (by kernel_rfl)) (fun _ _ _ h => h) (Or.inl ⟨by rfl, ?_⟩) ?_ ?_
         rotate_left
         ·intro w'
          go_simp
          with_reducible rfl
         rotate_left
         ·simp only [Act.put, List.setIfInBounds_toArray, List.set_cons_zero, List.set_cons_succ, i64_w, i32_w]
          rfl
         refine pure_ (i := 3) (N := some 17) (v := ?_) (a' := ?_) #[true, true, true, true, false, false, false, false, false, false, false, false, false, false, false] rfl rfl (any_of HT_.out (by kernel_rfl)) (fun _ _ _ h => h) (Or.inl ⟨by rfl, ?_⟩) ?_ ?_
         rotate_left
         ·intro w'
          go_simp
          with_reducible rfl
         rotate_left
         ·simp only [Act.put, List.setIfInBounds_toArray, List.set_cons_zero, List.set_cons_succ, i64_w, i32_w]
          rfl
         refine pure_ (i := 4) (N := some 18) (v := ?_) (a' := ?_) #[true, true, true, true, true, false, false, false, false, false, false, false, false, false, false] rfl rfl (any_of HT_.out (by kernel_rfl)) (fun _ _ _ h => h) (Or.inl ⟨by rfl, ?_⟩) ?_ ?_
         rotate_left
         ·intro w'
          go_simp
          with_reducible rfl
         rotate_left
         ·simp only [Act.put, List.setIfInBounds_toArray, List.set_cons_zero, List.set_cons_succ, i64_w, i32_w]
          rfl
         refine pure_ (i := 5) (N := some 19) (v := ?_) (a' := ?_) #[true, true, true, true, true, true, false, false, false, false, false, false, false, false, false] rfl rfl (any_of HT_.out (by kernel_rfl)) (fun _ _ _ h => h) (Or.inl ⟨by rfl, ?_⟩) ?_ ?_
         rotate_left
         ·intro w'
          go_simp
          with_reducible rfl
         rotate_left
         ·simp only [Act.put, List.setIfInBounds_toArray, List.set_cons_zero, List.set_cons_succ, i64_w, i32_w]
          rfl
         refine pure_ (i := 7) (N := some 21) (v := ?_) (a' := ?_) #[true, true, true, true, true, true, false, true, false, false, false, false, false, false, false] rfl rfl (any_of HT_.out (by kernel_rfl)) (fun _ _ _ h => h) (Or.inl ⟨by rfl, ?_⟩) ?_ ?_
         rotate_left
         ·intro w'
          go_simp
          with_reducible rfl
         rotate_left
         ·simp only [Act.put, List.setIfInBounds_toArray, List.set_cons_zero, List.set_cons_succ, i64_w, i32_w]
          rfl
         refine pure_ (i := 8) (N := some 22) (v := ?_) (a' := ?_) #[true, true, true, true, true, true, false, true, true, false, false, false, false, false, false] rfl rfl (any_of HT_.out (by kernel_rfl)) (fun _ _ _ h => h) (Or.inl ⟨by rfl, ?_⟩) ?_ ?_
         rotate_left
         ·intro w'
          go_simp
          with_reducible rfl
         rotate_left
         ·simp only [Act.put, List.setIfInBounds_toArray, List.set_cons_zero, List.set_cons_succ, i64_w, i32_w]
          rfl
         refine pure_ (i := 9) (N := some 23) (v := ?_) (a' := ?_) #[true, true, true, true, true, true, false, true, true, true, false, false, false, false, false] rfl rfl (any_of HT_.out (by kernel_rfl)) (fun _ _ _ h => h) (Or.inl ⟨by rfl, ?_⟩) ?_ ?_
         rotate_left
         ·intro w'
          go_simp
          with_reducible rfl
         rotate_left
         ·simp only [Act.put, List.setIfInBounds_toArray, List.set_cons_zero, List.set_cons_succ, i64_w, i32_w]
          rfl
         refine pure_ (i := 10) (N := some 24) (v := ?_) (a' := ?_) #[true, true, true, true, true, true, false, true, true, true, true, false, false, false, false] rfl rfl (any_of HT_.out (by kernel_rfl)) (fun _ _ _ h => h) (Or.inl ⟨by rfl, ?_⟩) ?_ ?_
         rotate_left
         ·intro w'
          go_simp
          with_reducible rfl
         rotate_left
         ·simp only [Act.put, List.setIfInBounds_toArray, List.set_cons_zero, List.set_cons_succ, i64_w, i32_w]
          rfl
         refine take_ (i := 6) (N := some 20) (v := ?_) (a' := ?_) #[true, true, true, true, true, true, true, true, true, true, true, false, false, false, false] rfl rfl (take_ofW HT_.out HW_.out (by kernel_rfl)) (fun _ _ _ h => h) (Or.inl ⟨by rfl, ?_⟩) hHeld ?_ ?_
         rotate_left
         ·rintro w' ⟨s0, s1⟩
          go_simp
          with_reducible rfl
         rotate_left
         ·simp only [Act.put, List.setIfInBounds_toArray, List.set_cons_zero, List.set_cons_succ, i64_w, i32_w]
          rfl
         refine take_ (i := 11) (N := some 25) (v := ?_) (a' := ?_) #[true, true, true, true, true, true, true, true, true, true, true, true, false, false, false] rfl rfl (take_ofW HT_.out HW_.out (by kernel_rfl)) (fun _ _ _ h => h) (Or.inl ⟨by rfl, ?_⟩) hHeld ?_ ?_
         rotate_left
         ·rintro w' ⟨s0, s1⟩
          go_simp
          with_reducible rfl
         rotate_left
         ·simp only [Act.put, List.setIfInBounds_toArray, List.set_cons_zero, List.set_cons_succ, i64_w, i32_w]
          rfl
         refine one_ (i := 12) (N := some 26) #[true, true, true, true, true, true, true, true, true, true, true, true, true, false, false] rfl rfl (one_of HT_.out (by kernel_rfl)) (by decide) (fun K hK => ?_)
         refine goes_ Tryz.func29 (by kernel_rfl) rfl #[.slice A231_0 (rd_L3 t224 x5_1).length c231_0, .slice A232_0 (rd_L3 t224 (ji12)).length c232_0] (by rfl) rfl rfl (by (try simp only [List.map_toArray, List.map_cons, List.map_nil]); first | done | (simp only [hji12]; rfl) | rfl | (simp only [List.length_drop, List.length_take]; rfl)) ?_
         with_reducible refine (tacticianref02_Compare.calls k1 _ _ (rd_L3 t224 x5_1) _ _ (rd_L3 t224 (ji12)) t233 _ ?side1 ?side2 ?side3 ?side4 A15.out).mono ?_
         (case side1 => repeat (first | exact (by repeat (first | (with_reducible exact HR231_0.out) | (with_reducible refine Kd.C_alloc ?_ _) | (with_reducible refine Kd.C_drewN ?_ _) | (with_reducible refine Kd.C_drew ?_) | exact HR231_0.out)) | (with_reducible refine Kd.C_alloc ?_ _) | (with_reducible refine Kd.C_drewN ?_ _) | (with_reducible refine Kd.C_drew ?_)))
         (case side2 => exact HC231_0.out)
         (case side3 => repeat (first | exact (by repeat (first | (with_reducible exact HR232_0.out) | (with_reducible refine Kd.C_alloc ?_ _) | (with_reducible refine Kd.C_drewN ?_ _) | (with_reducible refine Kd.C_drew ?_) | exact HR232_0.out)) | (with_reducible refine Kd.C_alloc ?_ _) | (with_reducible refine Kd.C_drewN ?_ _) | (with_reducible refine Kd.C_drew ?_)))
         (case side4 => exact HC232_0.out)
         rintro e w19 ⟨rfl, hb⟩
         have HS0_ := (hb.cell (World.block_lt_of_cell? _ _ (hHeld.1))).trans (hHeld.1)
         have HS1_ := (hb.cell (World.block_lt_of_cell? _ _ (hHeld.2))).trans (hHeld.2)
         refine ⟨_, rfl, ?_⟩
         have n0_ := Aside0.mk (Kd.N_below (by (with_reducible repeat (first | apply Kd.N_alloc | apply Kd.N_drewN | apply Kd.N_drew)); exact HO_3.out) hb)
         have n1_ := Aside0.mk (Kd.N_below (by (with_reducible repeat (first | apply Kd.N_alloc | apply Kd.N_drewN | apply Kd.N_drew)); exact HO_4.out) hb)
         have n2_ := Aside0.mk (Kd.V_below (by (with_reducible repeat (first | apply Kd.V_alloc | apply Kd.V_drewN | apply Kd.V_drew)); exact HL231_0.out) hb)
         have n3_ := Aside0.mk (Kd.V_below (by (with_reducible repeat (first | apply Kd.V_alloc | apply Kd.V_drewN | apply Kd.V_drew)); exact HL232_0.out) hb)
         have n4_ := Aside0.mk (Kd.C_below (by repeat (first | (with_reducible exact HR231_0.out) | (with_reducible refine Kd.C_alloc ?_ _) | (with_reducible refine Kd.C_drewN ?_ _) | (with_reducible refine Kd.C_drew ?_) | exact HR231_0.out)) hb)
         have n5_ := Aside0.mk (Kd.C_below (by repeat (first | (with_reducible exact HR232_0.out) | (with_reducible refine Kd.C_alloc ?_ _) | (with_reducible refine Kd.C_drewN ?_ _) | (with_reducible refine Kd.C_drew ?_) | exact HR232_0.out)) hb)
         have n6_ := Aside0.mk (below_step (by repeat (first | (with_reducible first | exact HB.out | apply yA | apply yN | apply yD) | exact HB.out)) hb)
         clear HO_3
         clear HO_4
         clear HL231_0
         clear HL232_0
         clear HR231_0
         clear HR232_0
         clear HB
         have HO_3 := n0_
         have HO_4 := n1_
         have HL231_0 := n2_
         have HL232_0 := n3_
         have HR231_0 := n4_
         have HR232_0 := n5_
         have HB := n6_
         clear n0_ n1_ n2_ n3_ n4_ n5_ n6_
         (try clear hb)
         (try clear hb2)
         (try clear hk)
         (try clear hi)
         refine hK.out _ _ ⟨HS0_, HS1_⟩ (fun hHeld => ?_)
         clear hK K
         refine norm_ (a' := ?_) ?_ ?_
         rotate_left
         ·show Act.put _ (some 26) _ = _
          simp only [Act.put, List.setIfInBounds_toArray, List.set_cons_zero, List.set_cons_succ, i64_w, i32_w]
          rfl
         refine pure_ (i := 13) (N := some 27) (v := ?_) (a' := ?_) #[true, true, true, true, true, true, true, true, true, true, true, true, true, true, false] rfl rfl (any_of HT_.out (by kernel_rfl)) (fun _ _ _ h => h) (Or.inl ⟨by rfl, ?_⟩) ?_ ?_
         rotate_left
         ·intro w'
          go_simp
          with_reducible rfl
         rotate_left
         ·simp only [Act.put, List.setIfInBounds_toArray, List.set_cons_zero, List.set_cons_succ, i64_w, i32_w]
          rfl
         refine pure_ (i := 14) (N := some 28) (v := ?_) (a' := ?_) #[true, true, true, true, true, true, true, true, true, true, true, true, true, true, true] rfl rfl (any_of HT_.out (by kernel_rfl)) (fun _ _ _ h => h) (Or.inl ⟨by rfl, ?_⟩) ?_ ?_
         rotate_left
         ·intro w'
          go_simp
          with_reducible rfl
         rotate_left
         ·simp only [Act.put, List.setIfInBounds_toArray, List.set_cons_zero, List.set_cons_succ, i64_w, i32_w]
          rfl
         refine done_ (done_of HT_.out (by kernel_rfl)) ?_
         try go_wp2
         go_roundg k1
         case measure => have := HK1.out; omega
         case rel => exact ⟨(x4_1), (wrap64 (x5_1 + 1)), (by first | rfl | (simp; done) | (simp [*]; done)), H', ⟨by have := HK1.out; omega⟩, ⟨by (with_reducible repeat (first | apply Kd.N_alloc | apply Kd.N_drewN | apply Kd.N_drew)); exact HO_3.out⟩, ⟨by (with_reducible repeat (first | apply Kd.N_alloc | apply Kd.N_drewN | apply Kd.N_drew)); exact HO_4.out⟩, ⟨by repeat (first | (with_reducible first | exact HB.out | apply yA | apply yN | apply yD) | exact HB.out)⟩⟩
        ·rw [if_neg c16] at H
         have c16b0 : (t233 == 0) = false := beq_eq_false_iff_ne.mpr c16
         have c16b1 : (t233 != 0) = true := bne_iff_ne.mpr c16
         by_cases c20 : x4_1.length < 5864062014805
         ·rw [if_pos c20] at H
          have LMc20 := Aside0.mk c20
          clear c20
          obtain ⟨y235, hy235⟩ : ∃ y_ : List (List (S61)), y_ = (x4_1 ++ [rd_L3 t224 x5_1]) := ⟨_, rfl⟩
          replace H : (tacticianref02_Distinct.l0 k1 t224 y235 (wrap64 (x5_1 + 1))) = some r := by first | (rw [hy235]; with_reducible exact H) | (have H2_ := (Option.bind_some _ _).symm.trans H; rw [hy235]; with_reducible exact H2_) | (have H2_ := (Option.bind_some _ _).symm.trans H; with_reducible exact H2_) | with_reducible exact H | (rw [hy235]; exact H) | exact H
          have Ny235 := Aside0.mk hy235
          clear hy235
          have H' := Aside0.mk H
          clear H
          obtain ⟨Ao21, co21, eo21⟩ := Kd.N_slice HO_3.out
          subst eo21
          try go_wp2
          have n0_ := Aside0.mk (Kd.N_drew HO_3.out)
          have n1_ := Aside0.mk (Kd.N_drew HO_4.out)
          have n2_ := Aside0.mk (below_drew1 HB.out)
          clear HO_3
          clear HO_4
          clear HB
          have HO_3 := n0_
          have HO_4 := n1_
          have HB := n2_
          clear n0_ n1_ n2_
          have p231 : 0 ≤ (x5_1 : Int) := of_decide_eq_true (by first | (with_reducible assumption) | assumption)
          have q231 : x5_1 < (t224.length : Int) := of_decide_eq_true (by first | (with_reducible assumption) | assumption)
          obtain ⟨ad231, A231_0, c231_0, e231, hx231_0, hl231_0, hi231_0⟩ := at_L3 (Kd.N_reads' HO_3.out).2.2 x5_1 p231 q231
          cases e231
          obtain ⟨ce231, hce231, hMe231, hcc231⟩ := Kd.N_get HO_3.out [] x5_1 p231 (by first | exact q231 | exact of_decide_eq_true (by first | (with_reducible assumption) | assumption) | (have e_ := (Kd.N_reads' HO_3.out).1; omega))
          obtain ⟨ua231_0, uc231_0, rfl, ul231_0, ge231_0⟩ := Kd.FK_slice_open hMe231
          have hv231_0 := hcc231 0 _ rfl
          rw [Nat.add_zero, show ((Kd.slice 61 k61)).sz = 1 from rfl, Nat.mul_one] at hv231_0
          replace hv231_0 := Option.some.inj (hv231_0.symm.trans hx231_0)
          injection hv231_0 with hva_ hvn_ hvc_
          rw [hva_] at ge231_0
          rw [hvc_] at ul231_0
          have HL231_0 := Aside0.mk (show Kd.V k61 61 _ w.heap.size _ _ (rd_L3 t224 x5_1) from Kd.V_mk ul231_0 ge231_0)
          clear hva_ hvn_ hvc_ ge231_0 ul231_0
          clear hcc231 hce231
          have HR231_0 := Aside0.mk hi231_0
          have HC231_0 := Aside0.mk hl231_0
          clear hi231_0 hl231_0
          replace p231 := eq_true p231
          replace q231 := eq_true q231
          have p232 : 0 ≤ ((ji12) : Int) := of_decide_eq_true (by first | (with_reducible assumption) | assumption)
          have q232 : (ji12) < (t224.length : Int) := of_decide_eq_true (by first | (with_reducible assumption) | assumption)
          obtain ⟨ad232, A232_0, c232_0, e232, hx232_0, hl232_0, hi232_0⟩ := at_L3 (Kd.N_reads' HO_3.out).2.2 (ji12) p232 q232
          obtain rfl : ad231 = ad232 := (by injection e232)
          obtain ⟨ce232, hce232, hMe232, hcc232⟩ := Kd.N_get HO_3.out [] (ji12) p232 (by first | exact q232 | exact of_decide_eq_true (by first | (with_reducible assumption) | assumption) | (have e_ := (Kd.N_reads' HO_3.out).1; omega))
          obtain ⟨ua232_0, uc232_0, rfl, ul232_0, ge232_0⟩ := Kd.FK_slice_open hMe232
          have hv232_0 := hcc232 0 _ rfl
          rw [Nat.add_zero, show ((Kd.slice 61 k61)).sz = 1 from rfl, Nat.mul_one] at hv232_0
          replace hv232_0 := Option.some.inj (hv232_0.symm.trans hx232_0)
          injection hv232_0 with hva_ hvn_ hvc_
          rw [hva_] at ge232_0
          rw [hvc_] at ul232_0
          have HL232_0 := Aside0.mk (show Kd.V k61 61 _ w.heap.size _ _ (rd_L3 t224 (ji12)) from Kd.V_mk ul232_0 ge232_0)
          clear hva_ hvn_ hvc_ ge232_0 ul232_0
          clear hcc232 hce232
          have HR232_0 := Aside0.mk hi232_0
          have HC232_0 := Aside0.mk hl232_0
          clear hi232_0 hl232_0
          replace p232 := eq_true p232
          replace q232 := eq_true q232
          refine start_ (n := 15) (S := fun w' => w'.cell? (ad231.add (x5_1).toNat) = some (.slice A231_0 (rd_L3 t224 x5_1).length c231_0) ∧ w'.cell? (ad231.add ((ji12)).toNat) = some (.slice A232_0 (rd_L3 t224 (ji12)).length c232_0)) (ds := []) #[false, false, false, false, false, false, false, false, false, false, false, false, false, false, false] (by kernel_rfl) rfl rfl ⟨hx231_0, hx232_0⟩ (fun hHeld => ?_); refine with_tabW tacticianref02_Distinct.tab6 tacticianref02_Distinct.bits6 (fun HT_ HW_ => ?_)
          generalize wr.drew = w22 at HO_3 HO_4 HB HL231_0 HL232_0 HR231_0 HR232_0 hx231_0 hx232_0 hHeld ⊢
          refine pure_ (i := 0) (N := some 14) (v := ?_) (a' := ?_) #[true, false, false, false, false, false, false, false, false, false, false, false, false, false, false] rfl rfl (any_of HT_.out (by kernel_rfl)) (fun _ _ _ h => h) (Or.inl ⟨by rfl, ?_⟩) ?_ ?_
          rotate_left
          ·intro w'
           go_simp
           with_reducible rfl
          rotate_left
          ·simp only [Act.put, List.setIfInBounds_toArray, List.set_cons_zero, List.set_cons_succ, i64_w, i32_w]
           rfl
          refine pure_ (i := 1) (N := some 15) (v := ?_) (a' := ?_) #[true, true, false, false, false, false, false, false, false, false, false, false, false, false, false] rfl rfl (any_of HT_.out (by kernel_rfl)) (fun _ _ _ h => h) (Or.inl ⟨by rfl, ?_⟩) ?_ ?_
          rotate_left
          ·intro w'
           go_simp
           with_reducible rfl
          rotate_left
          ·simp only [Act.put, List.setIfInBounds_toArray, List.set_cons_zero, List.set_cons_succ, i64_w, i32_w]
           rfl
          refine pure_ (i := 2) (N := some 16) (v := ?_) (a' := ?_) #[true, true, true, false, false, false, false, false, false, false, false, false, false, false, false] rfl rfl (any_of HT_.out (by kernel_rfl)) (fun _ _ _ h => h) (Or.inl ⟨by rfl, ?_⟩) ?_ ?_
          rotate_left
          ·intro w'
           go_simp
           with_reducible rfl
          rotate_left
          ·simp only [Act.put, List.setIfInBounds_toArray, List.set_cons_zero, List.set_cons_succ, i64_w, i32_w]
           rfl
          refine pure_ (i := 3) (N := some 17) (v := ?_) (a' := ?_) #[true, true, true, true, false, false, false, false, false, false, false, false, false, false, false] rfl rfl (any_of HT_.out (by kernel_rfl)) (fun _ _ _ h => h) (Or.inl ⟨by rfl, ?_⟩) ?_ ?_
          rotate_left
          ·intro w'
           go_simp
           with_reducible rfl
          rotate_left
          ·simp only [Act.put, List.setIfInBounds_toArray, List.set_cons_zero, List.set_cons_succ, i64_w, i32_w]
           rfl
          refine pure_ (i := 4) (N := some 18) (v := ?_) (a' := ?_) #[true, true, true, true, true, false, false, false, false, false, false, false, false, false, false] rfl rfl (any_of HT_.out (by kernel_rfl)) (fun _ _ _ h => h) (Or.inl ⟨by rfl, ?_⟩) ?_ ?_
          rotate_left
          ·intro w'
           go_simp
           with_reducible rfl
          rotate_left
          ·simp only [Act.put, List.setIfInBounds_toArray, List.set_cons_zero, List.set_cons_succ, i64_w, i32_w]
           rfl
          refine pure_ (i := 5) (N := some 19) (v := ?_) (a' := ?_) #[true, true, true, true, true, true, false, false, false, false, false, false, false, false, false] rfl rfl (any_of HT_.out (by kernel_rfl)) (fun _ _ _ h => h) (Or.inl ⟨by rfl, ?_⟩) ?_ ?_
          rotate_left
          ·intro w'
           go_simp
           with_reducible rfl
          rotate_left
          ·simp only [Act.put, List.setIfInBounds_toArray, List.set_cons_zero, List.set_cons_succ, i64_w, i32_w]
           rfl
          refine pure_ (i := 7) (N := some 21) (v := ?_) (a' := ?_) #[true, true, true, true, true, true, false, true, false, false, false, false, false, false, false] rfl rfl (any_of HT_.out (by kernel_rfl)) (fun _ _ _ h => h) (Or.inl ⟨by rfl, ?_⟩) ?_ ?_
          rotate_left
          ·intro w'
           go_simp
           with_reducible rfl
          rotate_left
          ·simp only [Act.put, List.setIfInBounds_toArray, List.set_cons_zero, List.set_cons_succ, i64_w, i32_w]
           rfl
          refine pure_ (i := 8) (N := some 22) (v := ?_) (a' := ?_) #[true, true, true, true, true, true, false, true, true, false, false, false, false, false, false] rfl rfl (any_of HT_.out (by kernel_rfl)) (fun _ _ _ h => h) (Or.inl ⟨by rfl, ?_⟩) ?_ ?_
          rotate_left
          ·intro w'
           go_simp
           with_reducible rfl
          rotate_left
          ·simp only [Act.put, List.setIfInBounds_toArray, List.set_cons_zero, List.set_cons_succ, i64_w, i32_w]
           rfl
          refine pure_ (i := 9) (N := some 23) (v := ?_) (a' := ?_) #[true, true, true, true, true, true, false, true, true, true, false, false, false, false, false] rfl rfl (any_of HT_.out (by kernel_rfl)) (fun _ _ _ h => h) (Or.inl ⟨by rfl, ?_⟩) ?_ ?_
          rotate_left
          ·intro w'
           go_simp
           with_reducible rfl
          rotate_left
          ·simp only [Act.put, List.setIfInBounds_toArray, List.set_cons_zero, List.set_cons_succ, i64_w, i32_w]
           rfl
          refine pure_ (i := 10) (N := some 24) (v := ?_) (a' := ?_) #[true, true, true, true, true, true, false, true, true, true, true, false, false, false, false] rfl rfl (any_of HT_.out (by kernel_rfl)) (fun _ _ _ h => h) (Or.inl ⟨by rfl, ?_⟩) ?_ ?_
          rotate_left
          ·intro w'
           go_simp
           with_reducible rfl
          rotate_left
          ·simp only [Act.put, List.setIfInBounds_toArray, List.set_cons_zero, List.set_cons_succ, i64_w, i32_w]
           rfl
          refine take_ (i := 6) (N := some 20) (v := ?_) (a' := ?_) #[true, true, true, true, true, true, true, true, true, true, true, false, false, false, false] rfl rfl (take_ofW HT_.out HW_.out (by kernel_rfl)) (fun _ _ _ h => h) (Or.inl ⟨by rfl, ?_⟩) hHeld ?_ ?_
          rotate_left
          ·rintro w' ⟨s0, s1⟩
           go_simp
           with_reducible rfl
          rotate_left
          ·simp only [Act.put, List.setIfInBounds_toArray, List.set_cons_zero, List.set_cons_succ, i64_w, i32_w]
           rfl
          refine take_ (i := 11) (N := some 25) (v := ?_) (a' := ?_) #[true, true, true, true, true, true, true, true, true, true, true, true, false, false, false] rfl rfl (take_ofW HT_.out HW_.out (by kernel_rfl)) (fun _ _ _ h => h) (Or.inl ⟨by rfl, ?_⟩) hHeld ?_ ?_
          rotate_left
          ·rintro w' ⟨s0, s1⟩
           go_simp
           with_reducible rfl
          rotate_left
          ·simp only [Act.put, List.setIfInBounds_toArray, List.set_cons_zero, List.set_cons_succ, i64_w, i32_w]
           rfl
          refine one_ (i := 12) (N := some 26) #[true, true, true, true, true, true, true, true, true, true, true, true, true, false, false] rfl rfl (one_of HT_.out (by kernel_rfl)) (by decide) (fun K hK => ?_)
          refine goes_ Tryz.func29 (by kernel_rfl) rfl #[.slice A231_0 (rd_L3 t224 x5_1).length c231_0, .slice A232_0 (rd_L3 t224 (ji12)).length c232_0] (by rfl) rfl rfl (by (try simp only [List.map_toArray, List.map_cons, List.map_nil]); first | done | (simp only [hji12]; rfl) | rfl | (simp only [List.length_drop, List.length_take]; rfl)) ?_
          with_reducible refine (tacticianref02_Compare.calls k1 _ _ (rd_L3 t224 x5_1) _ _ (rd_L3 t224 (ji12)) t233 _ ?side1 ?side2 ?side3 ?side4 A15.out).mono ?_
          (case side1 => repeat (first | exact (by repeat (first | (with_reducible exact HR231_0.out) | (with_reducible refine Kd.C_alloc ?_ _) | (with_reducible refine Kd.C_drewN ?_ _) | (with_reducible refine Kd.C_drew ?_) | exact HR231_0.out)) | (with_reducible refine Kd.C_alloc ?_ _) | (with_reducible refine Kd.C_drewN ?_ _) | (with_reducible refine Kd.C_drew ?_)))
          (case side2 => exact HC231_0.out)
          (case side3 => repeat (first | exact (by repeat (first | (with_reducible exact HR232_0.out) | (with_reducible refine Kd.C_alloc ?_ _) | (with_reducible refine Kd.C_drewN ?_ _) | (with_reducible refine Kd.C_drew ?_) | exact HR232_0.out)) | (with_reducible refine Kd.C_alloc ?_ _) | (with_reducible refine Kd.C_drewN ?_ _) | (with_reducible refine Kd.C_drew ?_)))
          (case side4 => exact HC232_0.out)
          rintro e w23 ⟨rfl, hb⟩
          have HS0_ := (hb.cell (World.block_lt_of_cell? _ _ (hHeld.1))).trans (hHeld.1)
          have HS1_ := (hb.cell (World.block_lt_of_cell? _ _ (hHeld.2))).trans (hHeld.2)
          refine ⟨_, rfl, ?_⟩
          have n0_ := Aside0.mk (Kd.N_below (by (with_reducible repeat (first | apply Kd.N_alloc | apply Kd.N_drewN | apply Kd.N_drew)); exact HO_3.out) hb)
          have n1_ := Aside0.mk (Kd.N_below (by (with_reducible repeat (first | apply Kd.N_alloc | apply Kd.N_drewN | apply Kd.N_drew)); exact HO_4.out) hb)
          have n2_ := Aside0.mk (Kd.V_below (by (with_reducible repeat (first | apply Kd.V_alloc | apply Kd.V_drewN | apply Kd.V_drew)); exact HL231_0.out) hb)
          have n3_ := Aside0.mk (Kd.V_below (by (with_reducible repeat (first | apply Kd.V_alloc | apply Kd.V_drewN | apply Kd.V_drew)); exact HL232_0.out) hb)
          have n4_ := Aside0.mk (Kd.C_below (by repeat (first | (with_reducible exact HR231_0.out) | (with_reducible refine Kd.C_alloc ?_ _) | (with_reducible refine Kd.C_drewN ?_ _) | (with_reducible refine Kd.C_drew ?_) | exact HR231_0.out)) hb)
          have n5_ := Aside0.mk (Kd.C_below (by repeat (first | (with_reducible exact HR232_0.out) | (with_reducible refine Kd.C_alloc ?_ _) | (with_reducible refine Kd.C_drewN ?_ _) | (with_reducible refine Kd.C_drew ?_) | exact HR232_0.out)) hb)
          have n6_ := Aside0.mk (below_step (by repeat (first | (with_reducible first | exact HB.out | apply yA | apply yN | apply yD) | exact HB.out)) hb)
          clear HO_3
          clear HO_4
          clear HL231_0
          clear HL232_0
          clear HR231_0
          clear HR232_0
          clear HB
          have HO_3 := n0_
          have HO_4 := n1_
          have HL231_0 := n2_
          have HL232_0 := n3_
          have HR231_0 := n4_
          have HR232_0 := n5_
          have HB := n6_
          clear n0_ n1_ n2_ n3_ n4_ n5_ n6_
          (try clear hb)
          (try clear hb2)
          (try clear hk)
          (try clear hi)
          refine hK.out _ _ ⟨HS0_, HS1_⟩ (fun hHeld => ?_)
          clear hK K
          refine norm_ (a' := ?_) ?_ ?_
          rotate_left
          ·show Act.put _ (some 26) _ = _
           simp only [Act.put, List.setIfInBounds_toArray, List.set_cons_zero, List.set_cons_succ, i64_w, i32_w]
           rfl
          refine pure_ (i := 13) (N := some 27) (v := ?_) (a' := ?_) #[true, true, true, true, true, true, true, true, true, true, true, true, true, true, false] rfl rfl (any_of HT_.out (by kernel_rfl)) (fun _ _ _ h => h) (Or.inl ⟨by rfl, ?_⟩) ?_ ?_
          rotate_left
          ·intro w'
           go_simp
           with_reducible rfl
          rotate_left
          ·simp only [Act.put, List.setIfInBounds_toArray, List.set_cons_zero, List.set_cons_succ, i64_w, i32_w]
           rfl
          refine pure_ (i := 14) (N := some 28) (v := ?_) (a' := ?_) #[true, true, true, true, true, true, true, true, true, true, true, true, true, true, true] rfl rfl (any_of HT_.out (by kernel_rfl)) (fun _ _ _ h => h) (Or.inl ⟨by rfl, ?_⟩) ?_ ?_
          rotate_left
          ·intro w'
           go_simp
           with_reducible rfl
          rotate_left
          ·simp only [Act.put, List.setIfInBounds_toArray, List.set_cons_zero, List.set_cons_succ, i64_w, i32_w]
           rfl
          refine done_ (done_of HT_.out (by kernel_rfl)) ?_
          have p234 : 0 ≤ (x5_1 : Int) := of_decide_eq_true (by first | (with_reducible assumption) | assumption)
          have q234 : x5_1 < (t224.length : Int) := of_decide_eq_true (by first | (with_reducible assumption) | assumption)
          obtain ⟨ad234, A234_0, c234_0, e234, hx234_0, hl234_0, hi234_0⟩ := at_L3 (Kd.N_reads' HO_3.out).2.2 x5_1 p234 q234
          obtain rfl : ad231 = ad234 := (by injection e234)
          obtain ⟨ce234, hce234, hMe234, hcc234⟩ := Kd.N_get HO_3.out [] x5_1 p234 (by first | exact q234 | exact of_decide_eq_true (by first | (with_reducible assumption) | assumption) | (have e_ := (Kd.N_reads' HO_3.out).1; omega))
          obtain ⟨ua234_0, uc234_0, rfl, ul234_0, ge234_0⟩ := Kd.FK_slice_open hMe234
          have hv234_0 := hcc234 0 _ rfl
          rw [Nat.add_zero, show ((Kd.slice 61 k61)).sz = 1 from rfl, Nat.mul_one] at hv234_0
          replace hv234_0 := Option.some.inj (hv234_0.symm.trans hx234_0)
          injection hv234_0 with hva_ hvn_ hvc_
          rw [hva_] at ge234_0
          rw [hvc_] at ul234_0
          have HL234_0 := Aside0.mk (show Kd.V k61 61 _ w.heap.size _ _ (rd_L3 t224 x5_1) from Kd.V_mk ul234_0 ge234_0)
          clear hva_ hvn_ hvc_ ge234_0 ul234_0
          clear hcc234 hce234
          have HR234_0 := Aside0.mk hi234_0
          have HC234_0 := Aside0.mk hl234_0
          clear hi234_0 hl234_0
          replace p234 := eq_true p234
          replace q234 := eq_true q234
          try clear hx231_0
          try clear HS0_
          try clear HS1_
          try clear HS2_
          try clear HS3_
          try clear hHeld
          try go_wp2_with (first | ((with_reducible refine gate_builtin (b := .append) (xs := #[.tmp 29, .tmp 34]) rfl ?_); at_builtin; refine Kd.N_append (Kd.slice 61 k61) (w0 := w) w.heap.size rfl (.tmp 29) (.tmp 34) 22 40 (.slice none 0 0) 24 rfl Tryz.underlying22 info40 rfl (by decide) (by omega) u4 x4_1 (rd_L3 t224 x5_1) [.slice A234_0 (rd_L3 t224 x5_1).length c234_0] (fun k_ => (w.heap.size ≤ k_) ∧ some k_ ≠ (.slice (some ad231) t224.length co21 : Value).ownBlock) (fun k_ => ((fun k_ => (w.heap.size ≤ k_) ∧ some k_ ≠ (.slice (some ad231) t224.length co21 : Value).ownBlock)) k_ ∧ some k_ ≠ (u4 : Value).ownBlock) rfl rfl ?aP (fun _ hk => hk) ?aF ?aO ?aB ?aS ?aL ?_; (case aP => exact (Kd.FK_slice_mk (Kd.V_reads' (Kd.V_mono (ok' := (fun k_ => ((fun k_ => (w.heap.size ≤ k_) ∧ some k_ ≠ (.slice (some ad231) t224.length co21 : Value).ownBlock)) k_ ∧ some k_ ≠ (u4 : Value).ownBlock)) (HL234_0.out) (fun k_ hk => ⟨⟨hk.1.1, hk.2⟩, hk.1.2⟩))).2.1 (Kd.V_F (Kd.V_mono (ok' := (fun k_ => ((fun k_ => (w.heap.size ≤ k_) ∧ some k_ ≠ (.slice (some ad231) t224.length co21 : Value).ownBlock)) k_ ∧ some k_ ≠ (u4 : Value).ownBlock)) (HL234_0.out) (fun k_ hk => ⟨⟨hk.1.1, hk.2⟩, hk.1.2⟩))))); (case aB => exact (by repeat (first | (with_reducible first | exact HB.out | apply yA | apply yN | apply yD) | exact HB.out))); (case aF => exact (fun k_ hk => ⟨(Nat.le_trans (below_size (by repeat (first | (with_reducible first | exact HB.out | apply yA | apply yN | apply yD) | exact HB.out))) hk), Kd.fresh' (Kd.N_lt (by (with_reducible repeat (first | apply Kd.N_alloc | apply Kd.N_drewN | apply Kd.N_drew)); exact HO_3.out)) k_ hk⟩)); (case aO => exact (by (with_reducible repeat (first | apply Kd.N_alloc | apply Kd.N_drewN | apply Kd.N_drew)); exact HO_4.out)); (case aS => exact (below_size (by repeat (first | (with_reducible first | exact HB.out | apply yA | apply yN | apply yD) | exact HB.out)))); (case aL => have := LMc20.out; omega); intro v236 w24 ho hb hg hat; rw [← Ny235.out] at ho; have n0_ := Aside0.mk (Kd.N_afterv (ok := (fun k_ => (w.heap.size ≤ k_))) (by (with_reducible repeat (first | apply Kd.N_alloc | apply Kd.N_drewN | apply Kd.N_drew)); exact HO_3.out) hg hat); have n1_ := Aside0.mk (Kd.V_afterv (ok := (fun k_ => (w.heap.size ≤ k_) ∧ some k_ ≠ (.slice (some ad231) t224.length co21 : Value).ownBlock)) (by (with_reducible repeat (first | apply Kd.V_alloc | apply Kd.V_drewN | apply Kd.V_drew)); exact Kd.V_mono HL231_0.out (fun _ hk => ⟨⟨hk.1.1, hk.2⟩, hk.1.2⟩)) hg hat); have n2_ := Aside0.mk (Kd.V_afterv (ok := (fun k_ => (w.heap.size ≤ k_) ∧ some k_ ≠ (.slice (some ad231) t224.length co21 : Value).ownBlock)) (by (with_reducible repeat (first | apply Kd.V_alloc | apply Kd.V_drewN | apply Kd.V_drew)); exact Kd.V_mono HL232_0.out (fun _ hk => ⟨⟨hk.1.1, hk.2⟩, hk.1.2⟩)) hg hat); have n3_ := Aside0.mk (Kd.V_afterv (ok := (fun k_ => (w.heap.size ≤ k_) ∧ some k_ ≠ (.slice (some ad231) t224.length co21 : Value).ownBlock)) (by (with_reducible repeat (first | apply Kd.V_alloc | apply Kd.V_drewN | apply Kd.V_drew)); exact Kd.V_mono HL234_0.out (fun _ hk => ⟨⟨hk.1.1, hk.2⟩, hk.1.2⟩)) hg hat); have n4_ := Aside0.mk (hb); have n5_ := Aside0.mk (ho); clear HO_3; clear HL231_0; clear HL232_0; clear HL234_0; clear HB; clear HO_4; have HO_3 := n0_; have HL231_0 := n1_; have HL232_0 := n2_; have HL234_0 := n3_; have HB := n4_; have HO237 := n5_; clear n0_ n1_ n2_ n3_ n4_ n5_; clear ho hb hg hat))
          go_roundg k1
          case measure => have := HK1.out; omega
          case rel => exact ⟨(y235), (wrap64 (x5_1 + 1)), (by first | rfl | (simp; done) | (simp [*]; done)), H', ⟨by have := HK1.out; omega⟩, ⟨by (with_reducible repeat (first | apply Kd.N_alloc | apply Kd.N_drewN | apply Kd.N_drew)); exact HO_3.out⟩, ⟨by (with_reducible repeat (first | apply Kd.N_alloc | apply Kd.N_drewN | apply Kd.N_drew)); exact HO237.out⟩, ⟨by repeat (first | (with_reducible first | exact HB.out | apply yA | apply yN | apply yD) | exact HB.out)⟩⟩
         ·rw [if_neg c20] at H
          exact absurd H (by simp)
       ·rw [if_neg c14] at H
        exact absurd H (by simp)
      ·rw [if_neg c13] at H
       exact absurd H (by simp)
     ·rw [if_neg c11] at H
      exact absurd H (by simp)
   ·rw [if_neg c4] at H
    have c4b0 : decide (x5_1 < (t224.length : Int)) = false := decide_eq_false c4
    clear c4
    obtain rfl := Option.some.inj H
    obtain ⟨Ao25, co25, eo25⟩ := Kd.N_slice HO_3.out
    subst eo25
    go_wp2
    go_ret
    exact ⟨_, by first | rfl | (simp [errW_none, errW_some] <;> rfl) | (simp [*, errW_none, errW_some] <;> rfl), by (with_reducible repeat (first | apply Kd.N_alloc | apply Kd.N_drewN | apply Kd.N_drew)); exact Kd.N_mono HO_4.out (fun _ hk => hk.1), by repeat (first | (with_reducible first | exact HB.out | apply yA | apply yN | apply yD) | exact HB.out)⟩
end Go.Proofs.YtmhobbdedmjmnaaGreatDoor.Q
end
section
/- What the plain definitions on rows answer: rows ordered by keys, each once; no program in sight. -/
namespace Go.Proofs.YtmhobbdedmjmnaaGreatDoor
open Go.RowKit Go.Proofs.YtmhobbdedmjmnaaGreatDoor.Q Go.Proofs.YtmhobbdedmjmnaaGreatDoorW.PrintWords Go.Proofs.YtmhobbdedmjmnaaGreatDoorW.PrintLast Go.Proofs.YtmhobbdedmjmnaaGreatDoorW.PrintMore
theorem rdK_at (l : List KK) (k : Nat) (h : k < l.length) : rd_T36 l (k : Int) = l[k] := by
  unfold rd_T36
  simp [h]
theorem rdV_at (r : List V) (i : Int) : rd_T61 r i = atR r i := rfl
theorem atR_ok {r : List V} (h : RowOk r) {i : Int} (h0 : 0 ≤ i) (h1 : i < r.length) : (atR r i).f2.size ≤ 1000 := by
  unfold atR
  have hi : i.toNat < r.length := by omega
  rw [show r.getD i.toNat ⟨0, 0, ⟨#[]⟩⟩ = r[i.toNat] by simp [hi]]
  exact (h.2 _ (List.getElem_mem hi)).1
theorem refBy_loop (ks : List KK) (a b : List V) (ha : RowOk a) (hb : RowOk b) (hn : ks.length ≤ 1000) (hp : ∀ k ∈ ks, 0 ≤ k.f0 ∧ k.f0 < a.length ∧ k.f0 < b.length) : ∀ (d i k : Nat), i + d = ks.length → 2 * d + 302 ≤ k →
    tacticianref02_by.l0 k ks a b (i : Int) = some (cfK (keysOf (ks.drop i)) a b) := by
  intro d
  induction d with
  | zero =>
    intro i k hi hk
    obtain ⟨k, rfl⟩ : ∃ m, k = m + 1 := ⟨k - 1, by omega⟩
    rw [tacticianref02_by.l0, if_neg (by omega), refCmp a b ha hb k (by omega), List.drop_of_length_le (by omega)]
    rfl
  | succ d ih =>
    intro i k hi hk
    obtain ⟨k, rfl⟩ : ∃ m, k = m + 2 := ⟨k - 2, by omega⟩
    have h1 : i < ks.length := by omega
    obtain ⟨p0, p1, p2⟩ := hp _ (List.getElem_mem h1)
    have ih1 := ih (i + 1) k (by omega) (by omega)
    have hc := cfV_cases (atR a ks[i].f0) (atR b ks[i].f0)
    rw [List.drop_eq_getElem_cons h1]
    show _ = some (cfK ((ks[i].f0, ks[i].f1) :: keysOf (ks.drop (i + 1))) a b)
    rw [cfK_cons, tacticianref02_by.l0, if_pos (by omega), if_pos (by omega), rdK_at ks i h1, if_pos p0, if_pos p1, if_pos p2, rdV_at, rdV_at, refCmpV (atR_ok ha p0 p1) (atR_ok hb p0 p2), Option.bind_some]
    dsimp only
    generalize cfV (atR a ks[i].f0) (atR b ks[i].f0) = c at hc ⊢
    by_cases h : c = 0
    · rw [if_pos h, tacticianref02_by.j1, if_neg (by decide), if_pos h, wrap_small (n := (i : Int) + 1) (by omega) (by omega), show ((i : Int) + 1) = ((i + 1 : Nat) : Int) by omega, ih1]
      subst h
      rw [if_neg (by simp)]
    · rw [if_neg h, tacticianref02_by.j1]
      cases ks[i].f1 with
      | true =>
        rw [if_pos rfl, if_pos rfl, if_pos (by omega)]
        congr 1
        unfold wrap64
        omega
      | false =>
        simp only [Bool.false_eq_true, if_false]
        rw [if_neg h, if_pos h]
theorem refBy (ks : List KK) (a b : List V) (ha : RowOk a) (hb : RowOk b) (hn : ks.length ≤ 1000) (hp : ∀ k ∈ ks, 0 ≤ k.f0 ∧ k.f0 < a.length ∧ k.f0 < b.length) (k : Nat) (hk : 2302 ≤ k) :
    tacticianref02_by.f k ks a b = some (cfK (keysOf ks) a b) := by
  unfold tacticianref02_by.f
  exact refBy_loop ks a b ha hb hn hp ks.length 0 k (by omega) (by omega)
def KeysIn (ks : List KK) (l : List (List V)) : Prop := ks.length ≤ 1000 ∧ ∀ k ∈ ks, ∀ r ∈ l, 0 ≤ k.f0 ∧ k.f0 < r.length
theorem mergeR_loop (ks : List KK) (a b : List (List V)) (ha : RowsOk 100000 a) (hb : RowsOk 100000 b) (hka : KeysIn ks a) (hkb : KeysIn ks b) : ∀ (d i j k : Nat) (out : List (List V)), (a.length - i) + (b.length - j) = d → i ≤ a.length → j ≤ b.length → out.length + d ≤ 1000000 → 2 * d + 2400 ≤ k →
    tacticianref02_Ordered.l0 k ks a b out (i : Int) (j : Int) = some (out ++ (a.drop i).merge (b.drop j) (leOf (cfK (keysOf ks)))) := by
  have hla := ha.1
  have hlb := hb.1
  intro d
  induction d with
  | zero =>
    intro i j k out hd hi hj ho hk
    obtain ⟨k, rfl⟩ : ∃ m, k = m + 2 := ⟨k - 2, by omega⟩
    have h1 : ¬ (i : Int) < (a.length : Int) := by omega
    have h2 : ¬ (j : Int) < (b.length : Int) := by omega
    rw [tacticianref02_Ordered.l0, if_neg h1, decide_eq_false h2, tacticianref02_Ordered.j1, if_neg (by decide), List.drop_of_length_le (by omega), List.drop_of_length_le (by omega), List.merge, List.append_nil]
  | succ d ih =>
    intro i j k out hd hi hj ho hk
    obtain ⟨k, rfl⟩ : ∃ m, k = m + 2 := ⟨k - 2, by omega⟩
    have hk' : 2 * d + 2400 ≤ k := by omega
    have mj : j < b.length → a.length - i + (b.length - (j + 1)) = d := fun h => by omega
    have mi : i < a.length → a.length - (i + 1) + (b.length - j) = d := fun h => by omega
    have ml : ¬ j < b.length → i < a.length := fun h => by omega
    have hgo : tacticianref02_Ordered.l0 (k + 2) ks a b out (i : Int) (j : Int) = tacticianref02_Ordered.j1 (k + 1) ks a b out (i : Int) (j : Int) true := by
      rw [tacticianref02_Ordered.l0]
      by_cases h : (i : Int) < (a.length : Int)
      · rw [if_pos h]
      · rw [if_neg h, decide_eq_true (show (j : Int) < (b.length : Int) by omega)]
    rw [hgo, tacticianref02_Ordered.j1, if_pos rfl]
    have w1 : wrap64 ((i : Int) + 1) = ((i + 1 : Nat) : Int) := by rw [wrap_small (by omega) (by omega)]; omega
    have w2 : wrap64 ((j : Int) + 1) = ((j + 1 : Nat) : Int) := by rw [wrap_small (by omega) (by omega)]; omega
    rw [w1, w2]
    have hol : out.length < 5864062014805 := by omega
    have hout : ∀ x : List V, (out ++ [x]).length + d ≤ 1000000 := fun x => by simp only [List.length_append, List.length_singleton]; omega
    have i0 : (0 : Int) ≤ (i : Int) := Int.natCast_nonneg i
    have j0 : (0 : Int) ≤ (j : Int) := Int.natCast_nonneg j
    by_cases hjl : j < b.length
    · have jl : (j : Int) < (b.length : Int) := Int.ofNat_lt.2 hjl
      have je : ¬ (j : Int) = (b.length : Int) := Int.ne_of_lt jl
      have eb : b.drop j = b[j] :: b.drop (j + 1) := List.drop_eq_getElem_cons hjl
      have ihj := fun x => ih i (j + 1) k (out ++ [x]) (mj hjl) hi hjl (hout x) hk'
      rw [if_neg je]
      by_cases hil : i < a.length
      · have il : (i : Int) < (a.length : Int) := Int.ofNat_lt.2 hil
        have ea : a.drop i = a[i] :: a.drop (i + 1) := List.drop_eq_getElem_cons hil
        have ihi := fun x => ih (i + 1) j k (out ++ [x]) (mi hil) hil hj (hout x) hk'
        have hma := List.getElem_mem hil
        have hmb := List.getElem_mem hjl
        rw [if_pos il, if_pos i0, if_pos j0, if_pos jl, rdL_at a i hil, rdL_at b j hjl, refBy ks _ _ (ha.2 _ hma) (hb.2 _ hmb) hka.1 (fun q hq => ⟨(hka.2 q hq _ hma).1, (hka.2 q hq _ hma).2, (hkb.2 q hq _ hmb).2⟩) k (by omega), Option.bind_some]
        by_cases hc : cfK (keysOf ks) a[i] b[j] ≤ 0
        · rw [if_pos hc, if_pos hol]
          refine (ihi a[i]).trans ?_
          have hle : leOf (cfK (keysOf ks)) a[i] b[j] = true := decide_eq_true hc
          have e : (a.drop i).merge (b.drop j) (leOf (cfK (keysOf ks))) = a[i] :: (a.drop (i + 1)).merge (b.drop j) (leOf (cfK (keysOf ks))) := by rw [ea, eb]; exact List.cons_merge_cons_pos _ _ _ hle
          rw [e, List.append_assoc]
          rfl
        · rw [if_neg hc, if_pos hol]
          refine (ihj b[j]).trans ?_
          have hle : ¬ leOf (cfK (keysOf ks)) a[i] b[j] = true := by unfold leOf; rw [decide_eq_true_eq]; exact hc
          have e : (a.drop i).merge (b.drop j) (leOf (cfK (keysOf ks))) = b[j] :: (a.drop i).merge (b.drop (j + 1)) (leOf (cfK (keysOf ks))) := by rw [ea, eb]; exact List.cons_merge_cons_neg _ _ _ hle
          rw [e, List.append_assoc]
          rfl
      · have il : ¬ (i : Int) < (a.length : Int) := fun h => hil (Int.ofNat_lt.1 h)
        rw [if_neg il, if_pos j0, if_pos jl, if_pos hol, rdL_at b j hjl]
        refine (ihj b[j]).trans ?_
        rw [List.drop_of_length_le (Nat.le_of_not_lt hil), eb, List.nil_merge, List.nil_merge, List.append_assoc]
        rfl
    · have hje : j = b.length := Nat.le_antisymm hj (Nat.le_of_not_lt hjl)
      have je : (j : Int) = (b.length : Int) := by rw [hje]
      have hil : i < a.length := ml hjl
      clear hje
      have il : (i : Int) < (a.length : Int) := Int.ofNat_lt.2 hil
      have ea : a.drop i = a[i] :: a.drop (i + 1) := List.drop_eq_getElem_cons hil
      have ihi := fun x => ih (i + 1) j k (out ++ [x]) (mi hil) hil hj (hout x) hk'
      rw [if_pos je, if_pos i0, if_pos il, if_pos hol, rdL_at a i hil]
      refine (ihi a[i]).trans ?_
      rw [List.drop_of_length_le (Nat.le_of_not_lt hjl), ea, List.merge_right, List.merge_right, List.append_assoc]
      rfl
theorem RowsOk.sub {n m : Nat} {l r : List (List V)} (h : RowsOk n l) (hs : ∀ x ∈ r, x ∈ l) (hl : r.length ≤ m) : RowsOk m r := ⟨hl, fun x hx => h.2 x (hs x hx)⟩
theorem KeysIn.sub {ks : List KK} {l r : List (List V)} (h : KeysIn ks l) (hs : ∀ x ∈ r, x ∈ l) : KeysIn ks r := ⟨h.1, fun k hk x hx => h.2 k hk x (hs x hx)⟩
theorem refOrdered_go (ks : List KK) : ∀ (n : Nat) (l : List (List V)), l.length ≤ n → RowsOk 100000 l → KeysIn ks l → ∀ k, 3 * l.length + 110000 ≤ k → tacticianref02_Ordered.f k l ks = some (sortBy (cfK (keysOf ks)) l) := by
  have tc := cfK_tc (keysOf ks)
  have small : ∀ l : List (List V), l.length < 2 → l = sortBy (cfK (keysOf ks)) l := fun l h2 => by
    refine tc.unique (List.Perm.refl _) ?_
    match l, h2 with
    | [], _ => exact List.Pairwise.nil
    | [x], _ => exact List.pairwise_singleton _ _
    | _ :: _ :: _, h => simp at h; omega
  intro n
  induction n with
  | zero =>
    intro l hl hr _ k hk
    obtain ⟨k, rfl⟩ : ∃ m, k = m + 1 := ⟨k - 1, by omega⟩
    rw [tacticianref02_Ordered.f, if_pos (by omega), refCopy l hr k (by omega), Option.bind_some, ← small l (by omega)]
  | succ n ih =>
    intro l hl hr hks k hk
    have hl1 := hr.1
    obtain ⟨k, rfl⟩ : ∃ m, k = m + 1 := ⟨k - 1, by omega⟩
    rw [tacticianref02_Ordered.f]
    by_cases h2 : l.length < 2
    · rw [if_pos (by omega), refCopy l hr k (by omega), Option.bind_some, ← small l h2]
    · have hw : wrap64 ((l.length : Int) / 2) = ((l.length / 2 : Nat) : Int) := by rw [wrap_small (by omega) (by omega)]; omega
      have ht : (l.take (l.length / 2)).length = l.length / 2 := by rw [List.length_take]; omega
      have hd : (l.drop (l.length / 2)).length = l.length - l.length / 2 := List.length_drop
      have mt : ∀ x ∈ l.take (l.length / 2), x ∈ l := fun x hx => List.mem_of_mem_take hx
      have md : ∀ x ∈ l.drop (l.length / 2), x ∈ l := fun x hx => List.mem_of_mem_drop hx
      rw [if_neg (by omega), hw, if_pos (by omega), if_pos (by omega), Int.toNat_natCast, ih (l.take (l.length / 2)) (by omega) (hr.sub mt (by omega)) (hks.sub mt) k (by omega), ih (l.drop (l.length / 2)) (by omega) (hr.sub md (by omega)) (hks.sub md) k (by omega)]
      simp only [Option.bind_some]
      have st : ∀ x ∈ sortBy (cfK (keysOf ks)) (l.take (l.length / 2)), x ∈ l := fun x hx => mt x (sortBy_mem.1 hx)
      have sd : ∀ x ∈ sortBy (cfK (keysOf ks)) (l.drop (l.length / 2)), x ∈ l := fun x hx => md x (sortBy_mem.1 hx)
      have h3 := mergeR_loop ks (sortBy (cfK (keysOf ks)) (l.take (l.length / 2))) (sortBy (cfK (keysOf ks)) (l.drop (l.length / 2)))
        (hr.sub st (by rw [sortBy_length]; omega)) (hr.sub sd (by rw [sortBy_length]; omega)) (hks.sub st) (hks.sub sd)
        l.length 0 0 k [] (by rw [sortBy_length, sortBy_length]; omega) (Nat.zero_le _) (Nat.zero_le _) (by rw [List.length_nil]; omega) (by omega)
      rw [show (0 : Int) = ((0 : Nat) : Int) from rfl, h3, List.nil_append, List.drop_zero, List.drop_zero]
      congr 1
      refine tc.unique ?_ (List.pairwise_merge tc.le_trans tc.le_total _ _ (tc.sorted _) (tc.sorted _))
      refine List.Perm.trans (List.merge_perm_append (le := leOf (cfK (keysOf ks)))) ?_
      refine (List.Perm.append (sortBy_perm _ _) (sortBy_perm _ _)).trans ?_
      rw [List.take_append_drop]
theorem refOrdered (ks : List KK) (l : List (List V)) (hr : RowsOk 100000 l) (hks : KeysIn ks l) (k : Nat) (hk : 410000 ≤ k) : tacticianref02_Ordered.f k l ks = some (sortBy (cfK (keysOf ks)) l) := by
  have hl1 := hr.1
  exact refOrdered_go ks l.length l (Nat.le_refl _) hr hks k (by omega)
theorem cfK_nil : cfK [] = cfR := by
  funext a b
  rfl
theorem refCanonical (l : List (List V)) (hr : RowsOk 100000 l) (k : Nat) (hk : 410000 ≤ k) : tacticianref02_Canonical.f k l = some (canR l) := by
  unfold tacticianref02_Canonical.f
  rw [refOrdered [] l hr ⟨Nat.zero_le _, fun k hk => by cases hk⟩ k hk]
  show _ = some (sortBy cfR l)
  rw [← cfK_nil]
  rfl
theorem distinctR_loop (s : List (List V)) (hr : RowsOk 100000 s) : ∀ (d i k : Nat), i + d = s.length → d + 301 ≤ k →
    tacticianref02_Distinct.l0 k s (Lib.compactUpTo s.toArray i) (i : Int) = some (onceOf s) := by
  have hl := hr.1
  intro d
  induction d with
  | zero =>
    intro i k hi hk
    obtain ⟨k, rfl⟩ : ∃ m, k = m + 1 := ⟨k - 1, by omega⟩
    rw [tacticianref02_Distinct.l0, if_neg (by omega)]
    have : i = s.length := by omega
    subst this
    rfl
  | succ d ih =>
    intro i k hi hk
    obtain ⟨k, rfl⟩ : ∃ m, k = m + 1 := ⟨k - 1, by omega⟩
    have hlt : i < s.length := by omega
    have hlen : (Lib.compactUpTo s.toArray i).length ≤ i := by
      unfold Lib.compactUpTo
      rw [List.length_map]
      exact Nat.le_trans (List.length_filter_le _ _) (by simp)
    have hstep := ih (i + 1) k (by omega) (by omega)
    rw [Lib.compactUpTo_succ] at hstep
    have e1 : s.toArray[i]! = s[i] := by simp [hlt]
    have hw : wrap64 ((i : Int) + 1) = ((i + 1 : Nat) : Int) := by rw [wrap_small (by omega) (by omega)]; omega
    rw [tacticianref02_Distinct.l0, if_pos (by omega)]
    by_cases h0 : i = 0
    · subst h0
      rw [if_pos (show ((0 : Nat) : Int) = 0 from rfl), if_pos (show (0 : Int) ≤ ((0 : Nat) : Int) from Int.le_refl 0), if_pos (by omega), rdL_at s 0 hlt, hw]
      rw [Lib.keeps_lt_one _ 0 (by omega), if_pos rfl, e1] at hstep
      exact hstep
    · have hw2 : wrap64 ((i : Int) - 1) = ((i - 1 : Nat) : Int) := by rw [wrap_small (by omega) (by omega)]; omega
      have hlt2 : i - 1 < s.length := by omega
      have e2 : s.toArray[i - 1]! = s[i - 1] := by simp [hlt2]
      rw [if_neg (by omega), if_pos (by omega), hw2, if_pos (by omega), if_pos (by omega), rdL_at s i hlt, rdL_at s (i - 1) hlt2, refCmp _ _ (hr.2 _ (List.getElem_mem hlt)) (hr.2 _ (List.getElem_mem hlt2)) k (by omega), Option.bind_some, hw]
      by_cases h : s[i] = s[i - 1]
      · rw [if_pos ((cfR_zero _ _).2 h)]
        rw [Lib.keeps_neg (by omega) (by rw [e1, e2]; exact h), if_neg (by simp), List.append_nil] at hstep
        exact hstep
      · rw [if_neg (fun e => h ((cfR_zero _ _).1 e)), if_pos (by omega)]
        rw [Lib.keeps_pos (by rw [e1, e2]; exact h), if_pos rfl, e1] at hstep
        exact hstep
theorem canR_ok {n : Nat} {l : List (List V)} (h : RowsOk n l) : RowsOk n (canR l) := h.sub (fun _ hx => sortBy_mem.1 hx) (by unfold canR; rw [sortBy_length]; exact h.1)
theorem refDistinctR (l : List (List V)) (hr : RowsOk 100000 l) (k : Nat) (hk : 410000 ≤ k) : tacticianref02_Distinct.f k l = some (oneR l) := by
  have hl := hr.1
  have hc := canR_ok hr
  have hc1 := hc.1
  unfold tacticianref02_Distinct.f
  rw [refCanonical l hr k hk, Option.bind_some]
  exact distinctR_loop (canR l) hc (canR l).length 0 k (by omega) (by omega)
end Go.Proofs.YtmhobbdedmjmnaaGreatDoor
end
section
/- Each function reached is shown to return what the plain function beside it computes, wherever that is defined (written by a program of ours for this seat). -/
namespace Go.Proofs.YtmhobbdedmjmnaaGreatDoor.Q
open Go.RowKit Go.Proofs.YtmhobbdedmjmnaaGreatDoorW.PrintWords Go.Proofs.YtmhobbdedmjmnaaGreatDoorW.PrintLast Go.Proofs.YtmhobbdedmjmnaaGreatDoorW.PrintMore
attribute [local go_sem] max2_int min2_int max_two min_two max_three min_three max_four min_four   -- for this text's walks alone
set_option linter.unusedVariables false
set_option linter.unusedSimpArgs false
end Go.Proofs.YtmhobbdedmjmnaaGreatDoor.Q
end
section
/- Each function reached is shown to return what the plain function beside it computes, wherever that is defined (written by a program of ours for this seat). -/
namespace Go.Proofs.YtmhobbdedmjmnaaGreatDoor.Q
open Go.RowKit Go.Proofs.YtmhobbdedmjmnaaGreatDoorW.PrintWords Go.Proofs.YtmhobbdedmjmnaaGreatDoorW.PrintLast Go.Proofs.YtmhobbdedmjmnaaGreatDoorW.PrintMore
attribute [local go_sem] max2_int min2_int max_two min_two max_three min_three max_four min_four   -- for this text's walks alone
set_option linter.unusedVariables false
set_option linter.unusedSimpArgs false
end Go.Proofs.YtmhobbdedmjmnaaGreatDoor.Q
end
section
/- What the plain definitions on rows answer: in both lists, and what is left of one; no program in sight. -/
end
section
/- What the arguments of the laws on rows are, cut short; what is wrong with them; in plain words. -/
namespace Go.Proofs.YtmhobbdedmjmnaaGreatDoor
open Go.RowKit Go.Proofs.YtmhobbdedmjmnaaGreatDoor.Q Go.Proofs.YtmhobbdedmjmnaaGreatDoorW.PrintWords Go.Proofs.YtmhobbdedmjmnaaGreatDoorW.PrintLast Go.Proofs.YtmhobbdedmjmnaaGreatDoorW.PrintMore
def argRow (x : List V) : Prop := x.length * 32 ≤ 140737488351232 ∧ x.length ≤ maxLen ∧ ∀ xx ∈ x, (Lit.int .i64 xx.f0).wf = true ∧ (Lit.int .i64 xx.f1).wf = true ∧ xx.f2.size ≤ 140737488351232
def argRows (l : List (List V)) : Prop := l.length * 24 ≤ 140737488351232 ∧ l.length ≤ maxLen ∧ ∀ x ∈ l, argRow x
theorem argRows_ok {n : Nat} {l : List (List V)} (h : argRows l) : RowsOk n (cutRows n l) := cutRows_ok fun r hr => (h.2.2 r hr).2.2
theorem RowsOk.grow {n m : Nat} {l : List (List V)} (h : RowsOk n l) (hn : n ≤ m) : RowsOk m l := h.sub (fun _ h => h) (Nat.le_trans h.1 hn)
theorem smallE_nil (a : List (List V)) : smallE [a, []] = smallE [a] := by
  unfold smallE
  have h1 : largeR [] = false := rfl
  have h2 : wrongR [] = false := rfl
  simp only [List.any_cons, List.any_nil, Bool.or_false, h1, h2]
theorem okR_of {n : Nat} {a : List (List V)} (ha : RowsOk n a) (hn : n ≤ 100000) : okR a = true := okR_mk (by have := ha.1; omega) fun r hr => by have := (ha.2 r hr).1; omega
end Go.Proofs.YtmhobbdedmjmnaaGreatDoor
end
section
/- A slice that is made, a cell that is set: the count of draws does not fall. -/
namespace Go.Proofs.YtmhobbdedmjmnaaGreatDoor
open Go.RowKit Go.Proofs.YtmhobbdedmjmnaaGreatDoor.Q Go.Proofs.YtmhobbdedmjmnaaGreatDoorW.PrintWords Go.Proofs.YtmhobbdedmjmnaaGreatDoorW.PrintLast Go.Proofs.YtmhobbdedmjmnaaGreatDoorW.PrintMore
theorem BelowD.cell {B : Nat} {w w' : World} (h : BelowD B w w') {p : Addr} (hp : p.block < B) : w'.cell? p = w.cell? p := h.b.cell hp
section
variable {P : Program} {ops : Array Oper} {rest : List Oper} {o : Oper} {a : Act} {Q : Exit → Act → World → Prop}
theorem setD {w W : World} {g j : Nat} {v : Value} (h : BelowD w.heap.size w W) (hg : w.heap.size ≤ g) : BelowD w.heap.size w (W.setCell ⟨g, j, none⟩ v) := ⟨below_set h.b hg, h.d⟩
theorem makeD {α : Type} (d : Kd α) {W : World} (base e : Nat) (hgd : o.guard = none) {N : Tmp} (_hd : o.dst = some N) (t : TypeId) (x y : Operand) (ho : o.op = .makeSlice t x y) (n : Int) (hx : a.eval x = .int .i64 n) (hy : a.eval y = .int .i64 n)
    (ht : P.underlying t = some (.slice e)) (z : Value) (bytes : Nat) (hinfo : (P.info? e).map (fun i => (i.zero, i.size, i.bytes)) = some (some z, d.sz, bytes)) (hz : z.cells.size = d.sz) (hs0 : 0 < d.sz) (hb0 : 0 < bytes)
    (z0 : α) {ok okp : Nat → Prop} (hzero : d.M W base okp z0 z.cells.toList) (hok : ∀ k, okp k → ok k) (hfresh : ok W.heap.size) (h0 : 0 ≤ n) (hl : n.toNat * bytes ≤ 281474976710656) (HB : BelowD W.heap.size W W) (hbase : base ≤ W.heap.size)
    (h : ∀ v1 w1, d.R e w1 base ok v1 (List.replicate n.toNat z0) → BelowD W.heap.size W w1 → W.grownBy w1 none → (∃ b, v1.ownBlock = some b ∧ W.heap.size ≤ b) → wpList P ops Q rest (a.put o.dst v1) w1) : wpList P ops Q (o :: rest) a W := by
  obtain ⟨m, rfl⟩ := Int.eq_ofNat_of_zero_le h0
  simp only [Int.toNat_natCast] at hl h
  obtain ⟨i0, hi, hzz⟩ := Option.map_eq_some_iff.1 hinfo
  simp only [Prod.mk.injEq] at hzz
  obtain ⟨hz0, hz1, hz2⟩ := hzz
  have hm : m ≤ 281474976710656 := Nat.le_trans (Nat.le_mul_of_pos_right _ hb0) hl
  have hr := run_make (P := P) W t e i0 z ht hi hz0 .i64 .i64 (m : Int) (m : Int) (by omega) (by omega)
    (by
      have h3 : ((i0.bytes * m : Nat) : Int) ≤ 281474976710656 := by rw [hz2, Nat.mul_comm]; omega
      rwa [Int.natCast_mul] at h3) (by omega)
  simp only [Int.toNat_natCast] at hr
  rw [hz1] at hr
  have hrep := Kd.reps_made (m := m) hz hs0 hzero
  refine Kd.event_run hgd (v := .slice (some ⟨W.heap.size, 0, none⟩) m m) (w1 := W.alloc (.cells (madeCells z.cells (m * d.sz)) e)) (by simp [execOp, ho, hx, hy, hr]) ?_
  refine h _ _ ⟨fun k hk => ?_, (madeCells z.cells (m * d.sz)).toList, ?_, ?_⟩ (dA HB _) (World.grownBy_alloc W _ none) ⟨W.heap.size, by simp [Value.ownBlock], Nat.le_refl _⟩
  · have : W.heap.size = k := by simpa [Value.ownBlock] using hk
    subst this
    exact hfresh
  · have h2 := World.ownsRow_lit (base := base) (e := e) (size := d.sz) W (madeCells z.cells (m * d.sz)) m hbase (by simp [maxLen]; omega) (by simpa using hrep.1)
    simpa using h2
  · refine hrep.imp_ (fun p c hp => d.M_mono (fun k hk => ⟨hok k hk.1, fun he => ?_⟩) (Kd.M_below (d.M_bound hp) (below_alloc (Below.refl _ _) _)))
    have h3 : k = W.heap.size := by simpa [Value.ownBlock] using he
    have := hk.2.2.1
    omega
end
end Go.Proofs.YtmhobbdedmjmnaaGreatDoor
end
section
/- Each function reached is shown to return what the plain function beside it computes, wherever that is defined (written by a program of ours for this seat). -/
namespace Go.Proofs.YtmhobbdedmjmnaaGreatDoor.Q
open Go.RowKit Go.Proofs.YtmhobbdedmjmnaaGreatDoorW.PrintWords Go.Proofs.YtmhobbdedmjmnaaGreatDoorW.PrintLast Go.Proofs.YtmhobbdedmjmnaaGreatDoorW.PrintMore
attribute [local go_sem] max2_int min2_int max_two min_two max_three min_three max_four min_four   -- for this text's walks alone
set_option linter.unusedVariables false
set_option linter.unusedSimpArgs false
def rows_At.l0 : Nat → List (S61) → List (S61) → List Int → Int → Int → Option ((List (S61)))
  | 0, _, _, _, _, _ => none
  | k + 1, x0, x5, x11, x12, x13 => if x13 < x12 then (if 0 ≤ x13 then (if x13 < (x11.length : Int) then (if 0 ≤ (rd x11 x13) then (if (rd x11 x13) < (x0.length : Int) then (if x13 < (x5.length : Int) then (rows_At.l0 k x0 (x5.set (x13 : Int).toNat (⟨(rd_T61 x0 (rd x11 x13)).f0, (rd_T61 x0 (rd x11 x13)).f1, (rd_T61 x0 (rd x11 x13)).f2⟩ : S61)) x11 x12 (wrap64 (x13 + 1))) else (none)) else (none)) else (none)) else (none)) else (none)) else (some x5)
def rows_At.f (k : Nat) (l0 : List (S61)) (l1 : List Int) : Option ((List (S61))) := if 0 ≤ (l1.length : Int) then (if ((l1.length : Int) : Int).toNat ≤ 8796093022208 then (rows_At.l0 k l0 (List.replicate ((l1.length : Int) : Int).toNat z61) l1 (l1.length : Int) 0) else (none)) else (none)
set_option maxHeartbeats 8000000 in
set_option maxRecDepth 100000 in
theorem rows_At.grows (k : Nat) (A0 : Option Addr) (c0 : Nat) (l0 : List (S61)) (A1 : Option Addr) (c1 : Nat) (l1 : List Int) (r : List (S61)) (w : World) (hr0 : Kd.C k61 w A0 l0.length l0) (hc0 : l0.length ≤ c0) (hr1 : Kd.C (Kd.int .i64) w A1 l1.length l1) (hc1 : l1.length ≤ c1) (h : rows_At.f k l0 l1 = some r) :
    Calls Tryz.prog 110 #[.slice A0 l0.length c0, .slice A1 l1.length c1] w fun e w' => ∃ v0_ : Value, e = .returned (v0_) ∧ Kd.R k61 61 w' w.heap.size (fun _ => True) v0_ r ∧ BelowD w.heap.size w w' := by
  have hu61 := Tryz.underlying61
  have HR0 := Aside0.mk hr0
  have HC0 := Aside0.mk hc0
  clear hr0 hc0
  have HR1 := Aside0.mk hr1
  have HC1 := Aside0.mk hc1
  clear hr1 hc1
  have HB := Aside0.mk (BelowD.refl w.heap.size w)
  have H : (if 0 ≤ (l1.length : Int) then (if ((l1.length : Int) : Int).toNat ≤ 8796093022208 then (rows_At.l0 k l0 (List.replicate ((l1.length : Int) : Int).toNat z61) l1 (l1.length : Int) 0) else (none)) else (none)) = some r := h
  clear h
  by_cases c3 : 0 ≤ (l1.length : Int)
  · rw [if_pos c3] at H
    have c3b0 := eq_true c3
    have c3b1 : decide (0 ≤ (l1.length : Int)) = true := decide_eq_true c3
    clear c3
    by_cases c4 : ((l1.length : Int) : Int).toNat ≤ 8796093022208
    · rw [if_pos c4] at H
      have c4b0 := eq_true c4
      have c4b1 : decide (((l1.length : Int) : Int).toNat ≤ 8796093022208) = true := decide_eq_true c4
      clear c4
      obtain ⟨y466, hy466⟩ : ∃ y_ : List (S61), y_ = (List.replicate ((l1.length : Int) : Int).toNat z61) := ⟨_, rfl⟩
      replace H : (rows_At.l0 k l0 y466 l1 (l1.length : Int) 0) = some r := by first | (rw [hy466]; with_reducible exact H) | (have H2_ := (Option.bind_some _ _).symm.trans H; rw [hy466]; with_reducible exact H2_) | (have H2_ := (Option.bind_some _ _).symm.trans H; with_reducible exact H2_) | with_reducible exact H | (rw [hy466]; exact H) | exact H
      have Ny466 := Aside0.mk hy466
      clear hy466
      have H' := Aside0.mk H
      clear H
      go_enter Tryz.func110, Tryz.ntmps110
      go_wp2_with (first | ((with_reducible refine gate_dst (N := 10) rfl ?_); refine makeD k61 _ 61 rfl (N := 10) rfl 40 _ _ rfl (l1.length : Int) rfl rfl Tryz.underlying40 (.agg #[(.int .i64 0), (.int .i64 0), (.string ⟨#[]⟩)]) 32 info61 rfl (by decide) (by omega) z61 (ok := fun _ => True) (okp := fun _ => True) (k61_mkM _ _ _ z61 ) (fun _ hk => hk) trivial (of_decide_eq_true (by first | (with_reducible assumption) | assumption)) (Nat.le_trans (Nat.mul_le_mul_right _ (of_decide_eq_true (by first | (with_reducible assumption) | assumption) : (l1.length : Int).toNat ≤ 8796093022208)) (by omega)) (BelowD.refl _ _) (Nat.le_refl _) ?_; intro v467 w5 ho6 hb hg_ hnew_; clear hg_ hnew_; (first | rw [← Ny466.out] at ho6 | (simp only [Int.reduceToNat] at ho6; rw [← Ny466.out] at ho6)); have n0_ := Aside0.mk (Kd.R_lower ho6 (belowD_size (by repeat (first | (with_reducible first | exact HB.out | apply dA | apply dN | apply dD) | exact HB.out)))); have n1_ := Aside0.mk (belowD_step (by repeat (first | (with_reducible first | exact HB.out | apply dA | apply dN | apply dD) | exact HB.out)) hb); clear HB; have HO468 := n0_; have HB := n1_; clear n0_ n1_; clear hb ho6))
      go_loopg [13] k (fun kq v13 w' => ∃ (x5_1 : List (S61)) (x13_1 : Int), v13 = .int .i64 x13_1 ∧ Aside0 (rows_At.l0 kq l0 x5_1 l1 (l1.length : Int) x13_1 = some r) ∧ Aside0 (kq ≤ k) ∧ Aside0 (Kd.R k61 61 w' w.heap.size (fun _ => True) v467 x5_1) ∧ Aside0 (BelowD w.heap.size w w'))
      case atStart => exact ⟨(y466), (0), (by first | rfl | (simp; done) | (simp [*]; done)), H', ⟨Nat.le_refl _⟩, ⟨by (with_reducible repeat (first | apply Kd.R_alloc | apply Kd.R_drewN | apply Kd.R_drew)); exact HO468.out⟩, ⟨by repeat (first | (with_reducible first | exact HB.out | apply dA | apply dN | apply dD) | exact HB.out)⟩⟩
      case round =>
        clear H'
        try clear c1
        try clear p2
        try clear c3
        try clear c3b0
        try clear c3b1
        try clear c4
        try clear c4b0
        try clear c4b1
        obtain ⟨x5_1, x13_1, rfl, HA, HK1, HO_5, HB⟩ := hrel
        cases gk with
        | zero => exact absurd HA.out (by simp [rows_At.l0])
        | succ k1 =>
          have H := HA.out
          clear HA
          simp only [rows_At.l0] at H
          by_cases c7 : x13_1 < (l1.length : Int)
          · rw [if_pos c7] at H
            have c7b0 : decide (x13_1 < (l1.length : Int)) = true := decide_eq_true c7
            clear c7
            by_cases c8 : 0 ≤ x13_1
            · rw [if_pos c8] at H
              have c8b0 : decide (0 ≤ x13_1) = true := decide_eq_true c8
              clear c8
              by_cases c9 : x13_1 < (l1.length : Int)
              · rw [if_pos c9] at H
                have c9b0 : decide (x13_1 < (l1.length : Int)) = true := decide_eq_true c9
                clear c9
                by_cases c10 : 0 ≤ (rd l1 x13_1)
                · rw [if_pos c10] at H
                  have c10b0 : decide (0 ≤ (rd l1 x13_1)) = true := decide_eq_true c10
                  clear c10
                  by_cases c11 : (rd l1 x13_1) < (l0.length : Int)
                  · rw [if_pos c11] at H
                    have c11b0 : decide ((rd l1 x13_1) < (l0.length : Int)) = true := decide_eq_true c11
                    clear c11
                    by_cases c12 : x13_1 < (x5_1.length : Int)
                    · rw [if_pos c12] at H
                      have c12b0 : decide (x13_1 < (x5_1.length : Int)) = true := decide_eq_true c12
                      clear c12
                      obtain ⟨y471, hy471⟩ : ∃ y_ : List (S61), y_ = (x5_1.set (x13_1 : Int).toNat (⟨(rd_T61 l0 (rd l1 x13_1)).f0, (rd_T61 l0 (rd l1 x13_1)).f1, (rd_T61 l0 (rd l1 x13_1)).f2⟩ : S61)) := ⟨_, rfl⟩
                      replace H : (rows_At.l0 k1 l0 y471 l1 (l1.length : Int) (wrap64 (x13_1 + 1))) = some r := by first | (rw [hy471]; with_reducible exact H) | (have H2_ := (Option.bind_some _ _).symm.trans H; rw [hy471]; with_reducible exact H2_) | (have H2_ := (Option.bind_some _ _).symm.trans H; with_reducible exact H2_) | with_reducible exact H | (rw [hy471]; exact H) | exact H
                      have Ny471 := Aside0.mk hy471
                      clear hy471
                      have H' := Aside0.mk H
                      clear H
                      have p469 : 0 ≤ (x13_1 : Int) := of_decide_eq_true (by first | (with_reducible assumption) | assumption)
                      have q469 : x13_1 < (l1.length : Int) := of_decide_eq_true (by first | (with_reducible assumption) | assumption)
                      obtain ⟨ad469, e469, hx469_0⟩ := Kd.at_int HR1.out x13_1 p469 q469
                      cases e469
                      replace hx469_0 := (HB.out.cell (World.block_lt_of_cell? w _ hx469_0)).trans hx469_0
                      replace p469 := eq_true p469
                      replace q469 := eq_true q469
                      have p470 : 0 ≤ ((rd l1 x13_1) : Int) := of_decide_eq_true (by first | (with_reducible assumption) | assumption)
                      have q470 : (rd l1 x13_1) < (l0.length : Int) := of_decide_eq_true (by first | (with_reducible assumption) | assumption)
                      obtain ⟨ad470, e470, hx470_0, hx470_1, hx470_2⟩ := at_T61 HR0.out (rd l1 x13_1) p470 q470
                      cases e470
                      replace hx470_0 := (HB.out.cell (World.block_lt_of_cell? w _ hx470_0)).trans hx470_0
                      replace hx470_1 := (HB.out.cell (World.block_lt_of_cell? w _ hx470_1)).trans hx470_1
                      replace hx470_2 := (HB.out.cell (World.block_lt_of_cell? w _ hx470_2)).trans hx470_2
                      replace p470 := eq_true p470
                      replace q470 := eq_true q470
                      have p13 : 0 ≤ (x13_1 : Int) := of_decide_eq_true (by first | (with_reducible assumption) | assumption)
                      have q13 : (x13_1 : Int) < ((x5_1.length : Int) : Int) := of_decide_eq_true (by first | (with_reducible assumption) | assumption)
                      obtain ⟨go13, co13, eo13, gb13, gl13, cl13, HG13⟩ := Kd.R_form HO_5.out (by omega)
                      (first | cases eo13 | (injection eo13 with ea_ en_ ec_; (first | subst ea_ | (injection ea_ with ea_; subst ea_)); subst ec_; clear en_))
                      have GB13 := Aside0.mk gb13
                      have GG13 := Aside0.mk HG13
                      clear gb13 gl13 HG13
                      obtain ⟨ce13, hcl13, hM13, hcc13, hfr13⟩ := Kd.R_elem HO_5.out z61 (x13_1 : Int) p13 q13
                      obtain rfl := k61_openM hM13
                      have hx13_0 : wr.cell? ⟨go13, (x13_1 : Int).toNat * 3, none⟩ = some (.int .i64 ((rd_T61 x5_1 x13_1).f0)) := hcc13 0 _ rfl
                      have hx13_1 : wr.cell? ⟨go13, (x13_1 : Int).toNat * 3 + 1, none⟩ = some (.int .i64 ((rd_T61 x5_1 x13_1).f1)) := hcc13 1 _ rfl
                      have hx13_2 : wr.cell? ⟨go13, (x13_1 : Int).toNat * 3 + 2, none⟩ = some (.string ((rd_T61 x5_1 x13_1).f2)) := hcc13 2 _ rfl
                      have hf13_0 : wr.frozen? ⟨go13, (x13_1 : Int).toNat * 3, none⟩ = false := hfr13 0
                      have hf13_1 : wr.frozen? ⟨go13, (x13_1 : Int).toNat * 3 + 1, none⟩ = false := hfr13 1
                      have hf13_2 : wr.frozen? ⟨go13, (x13_1 : Int).toNat * 3 + 2, none⟩ = false := hfr13 2
                      clear hcl13 hcc13 hfr13 hM13
                      replace p13 := eq_true p13
                      replace q13 := eq_true q13
                      have HX14 := Aside0.mk (show Kd.R k61 61 wr w.heap.size (fun _ => True) (.slice (some ⟨go13, 0, none⟩) x5_1.length co13) x5_1 from (by (with_reducible repeat (first | apply Kd.R_alloc | apply Kd.R_drewN | apply Kd.R_drew)); exact HO_5.out))
                      obtain ⟨ce14, hcl14, hM14, hcc14, hfr14⟩ := Kd.R_elem HX14.out z61 (x13_1 : Int) (of_decide_eq_true (by first | (with_reducible assumption) | assumption)) (by have h_ : (x13_1 : Int) < ((x5_1.length : Int) : Int) := of_decide_eq_true (by first | (with_reducible assumption) | assumption); first | exact h_ | (have e_ := (Kd.R_reads' HO_5.out).1; omega) | simpa using h_)
                      obtain rfl := k61_openM hM14
                      have HP14 := Kd.R_seg HX14.out (x13_1 : Int) (of_decide_eq_true (by first | (with_reducible assumption) | assumption)) (by have h_ : (x13_1 : Int) < ((x5_1.length : Int) : Int) := of_decide_eq_true (by first | (with_reducible assumption) | assumption); first | exact h_ | (have e_ := (Kd.R_reads' HO_5.out).1; omega) | simpa using h_) (seg := [.int .i64 ((rd_T61 l0 (rd l1 x13_1)).f0), .int .i64 ((rd_T61 l0 (rd l1 x13_1)).f1), .string ((rd_T61 l0 (rd l1 x13_1)).f2)]) (j := 0) hcl14 hcc14 (show 3 ≤ 3 from by decide) (x' := (⟨(rd_T61 l0 (rd l1 x13_1)).f0, (rd_T61 l0 (rd l1 x13_1)).f1, (rd_T61 l0 (rd l1 x13_1)).f2⟩ : S61)) (k61_mkM _ _ _ (⟨(rd_T61 l0 (rd l1 x13_1)).f0, (rd_T61 l0 (rd l1 x13_1)).f1, (rd_T61 l0 (rd l1 x13_1)).f2⟩ : S61) ) (fun _ hk => hk)
                      have hx14_0 := hcc14 0 _ rfl
                      (try simp only [show (k61).sz = 3 from rfl, Nat.mul_one, Nat.add_zero] at hx14_0)
                      have hf14_0 := hfr14 0
                      (try simp only [show (k61).sz = 3 from rfl, Nat.mul_one, Nat.add_zero] at hf14_0)
                      have hx14_1 := hcc14 1 _ rfl
                      (try simp only [show (k61).sz = 3 from rfl, Nat.mul_one, Nat.add_zero] at hx14_1)
                      have hf14_1 := hfr14 1
                      (try simp only [show (k61).sz = 3 from rfl, Nat.mul_one, Nat.add_zero] at hf14_1)
                      have hx14_2 := hcc14 2 _ rfl
                      (try simp only [show (k61).sz = 3 from rfl, Nat.mul_one, Nat.add_zero] at hx14_2)
                      have hf14_2 := hfr14 2
                      (try simp only [show (k61).sz = 3 from rfl, Nat.mul_one, Nat.add_zero] at hf14_2)
                      clear hcl14 hcc14 hfr14 hM14
                      go_wp2_with (first | ((with_reducible refine gate_store (t := 61) (p := 24) rfl ?_); refine store_event (t := 61) (p := 24) (v := ?vo_w15) (w1 := (((wr.setCell ⟨go13, (x13_1 : Int).toNat * 3, none⟩ (.int .i64 ((rd_T61 l0 (rd l1 x13_1)).f0))).setCell ⟨go13, (x13_1 : Int).toNat * 3 + 1, none⟩ (.int .i64 ((rd_T61 l0 (rd l1 x13_1)).f1))).setCell ⟨go13, (x13_1 : Int).toNat * 3 + 2, none⟩ (.string ((rd_T61 l0 (rd l1 x13_1)).f2)))) ?hg ?ho ?hn ?hr ?_; (case ho => rfl); (case hg => rfl); (case hn => rfl); (case hr => first | (go_simp; done) | (go_simp; rfl)); intro w15 hw; have hg : wr.grownBy w15 (some go13) := (by rw [hw]; exact HP14.2); have hp_ : Kd.R k61 61 w15 w.heap.size (fun _ => True) (.slice (some ⟨go13, 0, none⟩) x5_1.length co13) y471 := (by rw [hw, Ny471.out]; exact HP14.1); clear HP14; have n0_ := Aside0.mk (hp_); have n1_ := Aside0.mk ((by rw [hw]; exact setD (setD (setD (HB.out) GB13.out) GB13.out) GB13.out : BelowD w.heap.size w w15)); clear HO_5; clear HB; have HO_5 := n0_; have HB := n1_; clear n0_ n1_; clear hg hw hp_))
                      go_roundg k1
                      case measure => have := HK1.out; omega
                      case rel => exact ⟨(y471), (wrap64 (x13_1 + 1)), (by first | rfl | (simp; done) | (simp [*]; done)), H', ⟨by have := HK1.out; omega⟩, ⟨by (with_reducible repeat (first | apply Kd.R_alloc | apply Kd.R_drewN | apply Kd.R_drew)); exact HO_5.out⟩, ⟨by repeat (first | (with_reducible first | exact HB.out | apply dA | apply dN | apply dD) | exact HB.out)⟩⟩
                    · rw [if_neg c12] at H
                      exact absurd H (by simp)
                  · rw [if_neg c11] at H
                    exact absurd H (by simp)
                · rw [if_neg c10] at H
                  exact absurd H (by simp)
              · rw [if_neg c9] at H
                exact absurd H (by simp)
            · rw [if_neg c8] at H
              exact absurd H (by simp)
          · rw [if_neg c7] at H
            have c7b0 : decide (x13_1 < (l1.length : Int)) = false := decide_eq_false c7
            clear c7
            obtain rfl := Option.some.inj H
            go_wp2
            go_ret
            exact ⟨_, by first | rfl | (simp [errW_none, errW_some] <;> rfl) | (simp [*, errW_none, errW_some] <;> rfl), by (with_reducible repeat (first | apply Kd.R_alloc | apply Kd.R_drewN | apply Kd.R_drew)); exact HO_5.out, by repeat (first | (with_reducible first | exact HB.out | apply dA | apply dN | apply dD) | exact HB.out)⟩
    · rw [if_neg c4] at H
      exact absurd H (by simp)
  · rw [if_neg c3] at H
    exact absurd H (by simp)
def placesIn (p : List Int) (r : List V) : Bool := p.all fun c => decide (0 ≤ c) && decide (c < (r.length : Int))
theorem placesIn_spec {p : List Int} {r : List V} (h : placesIn p r = true) : ∀ c ∈ p, 0 ≤ c ∧ c < (r.length : Int) := fun c hc => by
  have h1 := (List.all_eq_true.1 h) c hc
  rw [Bool.and_eq_true] at h1
  exact ⟨of_decide_eq_true h1.1, of_decide_eq_true h1.2⟩
theorem placesIn_mk {p : List Int} {r : List V} (h : ∀ c ∈ p, 0 ≤ c ∧ c < (r.length : Int)) : placesIn p r = true := List.all_eq_true.2 fun c hc => by
  rw [decide_eq_true (h c hc).1, decide_eq_true (h c hc).2]; rfl
theorem rdI_atQ (l : List Int) (k : Nat) (h : k < l.length) : rd l (k : Int) = l[k] := by
  unfold rd
  simp [h]
theorem rows_At.l0_at (r : List V) (p : List Int) (hp : ∀ c ∈ p, 0 ≤ c ∧ c < (r.length : Int)) (hn : p.length ≤ 1000000) : ∀ (d i k : Nat), i + d = p.length → d < k →
    rows_At.l0 k r ((atP p r).take i ++ List.replicate d z61) p (p.length : Int) (i : Int) = some (atP p r) := by
  have hlen : (atP p r).length = p.length := by unfold atP; rw [List.length_map]
  intro d
  induction d with
  | zero =>
    intro i k hi hk
    obtain ⟨k, rfl⟩ : ∃ m, k = m + 1 := ⟨k - 1, by omega⟩
    rw [rows_At.l0, if_neg (by omega), List.take_of_length_le (by omega), List.replicate_zero, List.append_nil]
  | succ d ih =>
    intro i k hi hk
    obtain ⟨k, rfl⟩ : ∃ m, k = m + 1 := ⟨k - 1, by omega⟩
    have hlt : i < p.length := by omega
    have hq := hp _ (List.getElem_mem hlt)
    have htl : ((atP p r).take i).length = i := by rw [List.length_take]; omega
    have hx : (atP p r)[i]'(by omega) = atR r p[i] := by unfold atP; rw [List.getElem_map]
    have hset : ((atP p r).take i ++ List.replicate (d + 1) z61).set ((i : Int)).toNat (⟨(rd_T61 r p[i]).f0, (rd_T61 r p[i]).f1, (rd_T61 r p[i]).f2⟩ : V) = (atP p r).take (i + 1) ++ List.replicate d z61 := by
      rw [Int.toNat_natCast, List.replicate_succ, List.set_append_right _ _ (by omega), htl, Nat.sub_self, List.set_cons_zero, List.take_add_one, List.getElem?_eq_getElem (by omega), Option.toList_some, hx, List.append_assoc]
      rfl
    rw [rows_At.l0, if_pos (by omega), if_pos (by omega), if_pos (by omega), rdI_atQ p i hlt, if_pos hq.1, if_pos hq.2, if_pos (by rw [List.length_append, htl, List.length_replicate]; omega), hset, wrap_small (n := (i : Int) + 1) (by omega) (by omega), show ((i : Int) + 1) = ((i + 1 : Nat) : Int) by omega]
    exact ih (i + 1) k (by omega) (by omega)
def rows_At_s.f (l0 : List V) (l1 : List Int) : Option (List V) := if l1.length ≤ 1000000 ∧ placesIn l1 l0 = true then some (atP l1 l0) else none
theorem rows_At.at (l0 : List V) (l1 : List Int) (r : List V) (h : rows_At_s.f l0 l1 = some r) : rows_At.f (l1.length + 1) l0 l1 = some r := by
  unfold rows_At_s.f at h
  by_cases hs : l1.length ≤ 1000000 ∧ placesIn l1 l0 = true
  · rw [if_pos hs] at h
    obtain rfl := Option.some.inj h
    unfold rows_At.f
    rw [if_pos (by omega), Int.toNat_natCast, if_pos (by omega)]
    exact rows_At.l0_at l0 l1 (placesIn_spec hs.2) hs.1 l1.length 0 (l1.length + 1) (by omega) (by omega)
  · rw [if_neg hs] at h; cases h
theorem rows_At_s.grows (A0 : Option Addr) (c0 : Nat) (l0 : List V) (A1 : Option Addr) (c1 : Nat) (l1 : List Int) (r : List V) (w : World) (hr0 : Kd.C k61 w A0 l0.length l0) (hc0 : l0.length ≤ c0) (hr1 : Kd.C (Kd.int .i64) w A1 l1.length l1) (hc1 : l1.length ≤ c1) (h : rows_At_s.f l0 l1 = some r) :
  Calls Tryz.prog 110 #[.slice A0 l0.length c0, .slice A1 l1.length c1] w fun e w' => ∃ v0_ : Value, e = .returned (v0_) ∧ Kd.R k61 61 w' w.heap.size (fun _ => True) v0_ r ∧ BelowD w.heap.size w w' :=
 rows_At.grows (l1.length + 1) A0 c0 l0 A1 c1 l1 r w hr0 hc0 hr1 hc1 (rows_At.at l0 l1 r h)
end Go.Proofs.YtmhobbdedmjmnaaGreatDoor.Q
end
section
/- Each function reached is shown to return what the plain function beside it computes, wherever that is defined (written by a program of ours for this seat). -/
namespace Go.Proofs.YtmhobbdedmjmnaaGreatDoor.Q
open Go.RowKit Go.Proofs.YtmhobbdedmjmnaaGreatDoorW.PrintWords Go.Proofs.YtmhobbdedmjmnaaGreatDoorW.PrintLast Go.Proofs.YtmhobbdedmjmnaaGreatDoorW.PrintMore
attribute [local go_sem] max2_int min2_int max_two min_two max_three min_three max_four min_four   -- for this text's walks alone
set_option linter.unusedVariables false
set_option linter.unusedSimpArgs false
theorem eqA61 (d : Nat) (w : World) (x0 y0 : Int) (x1 y1 : Int) (x2 y2 : ByteArray) :
  (Op.equalIn (d + 2) 61 (.agg #[.int .i64 x0, .int .i64 x1, .string x2]) (.agg #[.int .i64 y0, .int .i64 y1, .string y2])).run Tryz.prog w = .ok (x0 == y0 && (x1 == y1 && (x2.toList == y2.toList))) w := by
 refine eqA_of Tryz.underlying61 (by kernel_rfl) ?_
 refine eqf_cons (by rfl) (by go_simp; rfl) (by go_simp; rfl) (by go_simp) ?_
 refine eqf_cons (by rfl) (by go_simp; rfl) (by go_simp; rfl) (by go_simp) ?_
 exact eqf_last (by rfl) (by go_simp; rfl) (by go_simp; rfl) (by go_simp)
end Go.Proofs.YtmhobbdedmjmnaaGreatDoor.Q
end
section
/- Each function reached is shown to return what the plain function beside it computes, wherever that is defined (written by a program of ours for this seat). -/
namespace Go.Proofs.YtmhobbdedmjmnaaGreatDoor.Q
open Go.RowKit Go.Proofs.YtmhobbdedmjmnaaGreatDoorW.PrintWords Go.Proofs.YtmhobbdedmjmnaaGreatDoorW.PrintLast Go.Proofs.YtmhobbdedmjmnaaGreatDoorW.PrintMore
attribute [local go_sem] max2_int min2_int max_two min_two max_three min_three max_four min_four   -- for this text's walks alone
set_option linter.unusedVariables false
set_option linter.unusedSimpArgs false
end Go.Proofs.YtmhobbdedmjmnaaGreatDoor.Q
end
section
/- Each function reached is shown to return what the plain function beside it computes, wherever that is defined (written by a program of ours for this seat). -/
namespace Go.Proofs.YtmhobbdedmjmnaaGreatDoor.Q
open Go.RowKit Go.Proofs.YtmhobbdedmjmnaaGreatDoorW.PrintWords Go.Proofs.YtmhobbdedmjmnaaGreatDoorW.PrintLast Go.Proofs.YtmhobbdedmjmnaaGreatDoorW.PrintMore
attribute [local go_sem] max2_int min2_int max_two min_two max_three min_three max_four min_four   -- for this text's walks alone
set_option linter.unusedVariables false
set_option linter.unusedSimpArgs false
attribute [local go_sem high] eqA61
theorem row_cell {w : World} {A : Option Addr} {l : List (List V)} (h : Kd.C (Kd.slice 61 k61) w A l.length l) (k : Nat) (hk : k < l.length) :
  ∃ ad A1 c1, A = some ad ∧ w.cell? (ad.add k) = some (.slice A1 l[k].length c1) ∧ l[k].length ≤ c1 ∧ Kd.C k61 w A1 l[k].length l[k] := by
 obtain ⟨ad, e1, hcs⟩ := h.2.2 (by omega)
 obtain ⟨cs, hcs1, ⟨A1, c1, rfl, hle1, hC1⟩, hcs3⟩ := hcs k l[k] (List.getElem?_eq_getElem hk)
 refine ⟨ad, A1, c1, e1, ?_, hle1, hC1⟩
 have h9 := hcs3 0 _ rfl
 rw [show k * (Kd.slice 61 k61).sz + 0 = k from Nat.mul_one k] at h9
 exact h9
end Go.Proofs.YtmhobbdedmjmnaaGreatDoor.Q
end
section
/- Each function reached is shown to return what the plain function beside it computes, wherever that is defined (written by a program of ours for this seat). -/
namespace Go.Proofs.YtmhobbdedmjmnaaGreatDoor.Q
open Go.RowKit Go.Proofs.YtmhobbdedmjmnaaGreatDoorW.PrintWords Go.Proofs.YtmhobbdedmjmnaaGreatDoorW.PrintLast Go.Proofs.YtmhobbdedmjmnaaGreatDoorW.PrintMore
attribute [local go_sem] max2_int min2_int max_two min_two max_three min_three max_four min_four   -- for this text's walks alone
set_option linter.unusedVariables false
set_option linter.unusedSimpArgs false
theorem or2_at (a b : Int) : cmp_Or_int.f 3 [a, b] = some (if a ≠ 0 then a else b) := by
  have w1 : wrap64 (0 + 1) = 1 := by unfold wrap64; omega
  have w2 : wrap64 (1 + 1) = 2 := by unfold wrap64; omega
  have r0 : rd [a, b] 0 = a := rfl
  have r1 : rd [a, b] 1 = b := rfl
  have e : ([a, b].length : Int) = 2 := rfl
  simp only [cmp_Or_int.f, cmp_Or_int.l0, e, w1, w2, r0, r1]
  by_cases ha : a = 0 <;> by_cases hb : b = 0 <;> simp [ha, hb]
theorem C_ints2 (W : World) (x y : Int) : Kd.C (Kd.int .i64) (W.alloc (.cells #[.int .i64 x, .int .i64 y] 3)) (some ⟨W.heap.size, 0, none⟩) 2 [x, y] :=
  C_lit rfl (blk_new W _) (Reps.one rfl (Reps.one rfl (Reps.none _ _))) (show 2 ≤ 1000 by decide)
theorem or2.calls (W : World) (x y : Int) (g : Nat) (hg : g = W.heap.size) : Calls Tryz.prog 109 #[.slice (some ⟨g, 0, none⟩) 2 2] (W.alloc (.cells #[.int .i64 x, .int .i64 y] 3)) fun e w' => e = .returned (.int .i64 (if x ≠ 0 then x else y)) ∧ BelowD W.heap.size W w' := by
  subst hg
  refine (cmp_Or_int.calls 3 (some ⟨W.heap.size, 0, none⟩) 2 [x, y] (if x ≠ 0 then x else y) _ (C_ints2 W x y) (Nat.le_refl _) (or2_at x y)).mono ?_
  rintro e w' ⟨he, hd⟩
  obtain ⟨n, rfl⟩ := hd.out
  exact ⟨he, dN (dA (BelowD.refl _ _) _) n⟩
set_option maxHeartbeats 4000000 in
set_option maxRecDepth 100000 in
theorem part1.calls (gb : Nat) (K : Option Addr) (ck : Nat) (p : List Int) (A0 A1 : Option Addr) (c0 c1 : Nat) (a b : List V) (w : World) (hc : w.cell? ⟨gb, 0, none⟩ = some (.slice K p.length ck)) (hck : p.length ≤ ck) (hK : Kd.C (Kd.int .i64) w K p.length p)
    (hA : Kd.C k61 w A0 a.length a) (hca : a.length ≤ c0) (hB : Kd.C k61 w A1 b.length b) (hcb : b.length ≤ c1) (la : a.length ≤ 4611686018427387904) (lb : b.length ≤ 4611686018427387904) (lp : p.length ≤ 1000000) (pa : placesIn p a = true) (pb : placesIn p b = true) :
    Calls Tryz.prog 108 (#[.slice A0 a.length c0, .slice A1 b.length c1] ++ #[.pointer (some ⟨gb, 0, none⟩)]) w fun e w' => e = .returned (.int .i64 (cfP p a b)) ∧ BelowD w.heap.size w w' := by
  have mixed : Tryz.prog.follows .mixedOrders = true := by kernel_rfl
  have lpa : (atP p a).length ≤ 4611686018427387904 := by unfold atP; rw [List.length_map]; omega
  have lpb : (atP p b).length ≤ 4611686018427387904 := by unfold atP; rw [List.length_map]; omega
  have H1 := Aside0.mk (fun W (hb : BelowD w.heap.size w W) => rows_At_s.grows A0 c0 a K ck p (atP p a) W (Kd.C_below hA hb.b) hca (Kd.C_below hK hb.b) hck (by unfold rows_At_s.f; rw [if_pos ⟨lp, pa⟩]))
  have H2 := Aside0.mk (fun W (hb : BelowD w.heap.size w W) => rows_At_s.grows A1 c1 b K ck p (atP p b) W (Kd.C_below hB hb.b) hcb (Kd.C_below hK hb.b) hck (by unfold rows_At_s.f; rw [if_pos ⟨lp, pb⟩]))
  have H3 := Aside0.mk (fun W Ax Ay cx cy hx hy => rows_Order.grows Ax Ay cx cy (atP p a) (atP p b) (cfR (atP p a) (atP p b)) W hx hy (by unfold rows_Order.f; rw [if_pos ⟨lpa, lpb⟩]))
  have H4 := Aside0.mk (fun W (hb : BelowD w.heap.size w W) => rows_Order.grows A0 A1 c0 c1 a b (cfR a b) W (Kd.C_below hA hb.b) (Kd.C_below hB hb.b) (by unfold rows_Order.f; rw [if_pos ⟨la, lb⟩]))
  have HV : Aside0 (cfP p a b = if cfR (atP p a) (atP p b) ≠ 0 then cfR (atP p a) (atP p b) else cfR a b) := ⟨rfl⟩
  rw [HV.out]
  have HB := Aside0.mk (BelowD.refl w.heap.size w)
  clear hck hK hA hca hB hcb la lb lp pa pb lpa lpb HV
  generalize cfR (atP p a) (atP p b) = x at H3 ⊢
  generalize cfR a b = y at H4 ⊢
  have H5 := Aside0.mk (fun (W : World) (g : Nat) (hg : g = W.heap.size) => or2.calls W x y g hg)
  generalize (if x ≠ 0 then x else y) = z at H5 ⊢
  generalize a.length = na at H1 H4 ⊢
  generalize b.length = nb at H2 H4 ⊢
  generalize p.length = np at H1 H2 hc ⊢
  go_enter Tryz.func108, Tryz.ntmps108
  go_wp2_with fail
  go_region_held3 (fun w' => w'.cell? ⟨gb, 0, none⟩ = some (.slice K np ck))
    (first | exact Lib.cell?_alloc_some _ hk4 | exact hk4 | exact hk3 | exact hk2 | exact hk1 | exact hc | go_keep)
    (first
      | (go_at_call 110; refine (H1.out _ (by first | exact HB.out | exact dD HB.out)).mono ?_; rintro e w1 ⟨v1, rfl, hv1, hb1⟩; clear H1; obtain ⟨Ao1, co1, rfl⟩ := Kd.R_slice hv1; have HV1 := Aside0.mk (Kd.R_reads' hv1).2.2; have hk1 := cell_keeps hb1.b hc; have HB1 := Aside0.mk (belowD_step (by first | exact HB.out | exact dD HB.out) hb1); clear hv1 hb1)
      | (go_at_call 110; refine (H2.out _ HB1.out).mono ?_; rintro e w2 ⟨v2, rfl, hv2, hb2⟩; obtain ⟨Ao2, co2, rfl⟩ := Kd.R_slice hv2; have HV2 := Aside0.mk (Kd.R_reads' hv2).2.2; have HV1b := Aside0.mk (Kd.C_below HV1.out hb2.b); have hk2 := cell_keeps hb2.b hk1; have HB2 := Aside0.mk (belowD_step HB1.out hb2); clear hv2 hb2)
      | (go_at_call 63; refine (H3.out _ _ _ _ _ HV1b.out HV2.out).mono ?_; rintro e w3 ⟨rfl, hb3⟩; clear H3; have hk3 := cell_keeps hb3.b hk2; have HB3 := Aside0.mk (belowD_step HB2.out hb3); clear hb3)
      | (go_at_call 63; refine (H4.out _ HB3.out).mono ?_; rintro e w4 ⟨rfl, hb4⟩; have hk4 := cell_keeps hb4.b hk3; have HB4 := Aside0.mk (belowD_step HB3.out hb4); clear hb4)
      | (go_at_call 109; refine (H5.out _ _ rfl).mono ?_; rintro e w5 ⟨rfl, hb5⟩; have hk5 := cell_keeps hb5.b hk4; have HB5 := Aside0.mk (belowD_step HB4.out hb5); clear hb5))
  all_goals
    go_wp2
    go_ret
    exact ⟨rfl, HB5.out⟩
section
open Go.Sort
theorem sortPart.calls (gb : Nat) (K : Option Addr) (ck : Nat) (p : List Int) (v : Value) (xs : List (List V)) (w0 w : World) (hb : Below w0.heap.size w0 w) (hbox : w.heap[gb]? = some (.cells #[.slice K p.length ck] 34 (0, 0))) (hck : p.length ≤ ck) (hK : Kd.C (Kd.int .i64) w0 K p.length p)
    (h : Kd.S (Kd.slice 61 k61) 40 w w0.heap.size (fun _ => True) v xs) (hl : okR xs = true) (lp : p.length ≤ 1000000) (hp : ∀ x ∈ xs, placesIn p x = true) :
    Calls Tryz.prog 60 #[v, .func (.func 108) #[] #[.pointer (some ⟨gb, 0, none⟩)]] w fun e' w' => e' = .returned (.tuple #[]) ∧ Kd.S (Kd.slice 61 k61) 40 w' w0.heap.size (fun _ => True) v (sortBy (cfP p) xs) ∧ w.grownBy w' v.ownBlock ∧ (∀ (B : Nat) (w1 : World), B ≤ w0.heap.size → Below B w1 w → B ≤ w.heap.size → Below B w1 w') := by
  have hl' := okR_spec hl
  have eg : ∀ args w, (callFunc 108 args).run Tryz.prog w = .ok (.enter 108 args) w := enters_of Tryz.func108 (by kernel_rfl) rfl
  have hki : Kd.Heap (Kd.int .i64) := Kd.heap_int _
  have hc := sortS Tryz.sortR (Kd.slice 61 k61) rfl 40 (cfP p) (cfP_tc _) 108 #[.pointer (some ⟨gb, 0, none⟩)] eg v xs w w0.heap.size _ h (by have := hl'.1; omega) (fun x y cx cy W hx hy hMx hMy hW => by
    obtain ⟨A0, c0, rfl, hc0, hC0⟩ := M_row_reads hMx
    obtain ⟨A1, c1, rfl, hc1, hC1⟩ := M_row_reads hMy
    have hcell : W.heap[gb]? = _ := (hW gb (blk_lt hbox) (Kd.S_ne h hbox (by decide))).trans hbox
    have hKW : Kd.C (Kd.int .i64) W K p.length p := hki.C (fun k hk => (hW k (Nat.lt_of_lt_of_le hk hb.size) (fun e => by have := Kd.S_base h k e.symm; omega)).trans (hb.block k hk)) hK
    exact part1.calls gb K ck p A0 A1 c0 c1 x y W (blk_cell hcell 0) hck hKW hC0 hc0 hC1 hc1 (by have := hl'.2 x hx; omega) (by have := hl'.2 y hy; omega) lp (hp x hx) (hp y hy))
  change Calls Tryz.prog 60 _ _ _ at hc
  exact hc
set_option maxRecDepth 100000 in
set_option maxHeartbeats 4000000 in
theorem parted.calls (A0 : Option Addr) (c0 : Nat) (l : List (List V)) (K : Option Addr) (ck : Nat) (p : List Int) (w : World) (hr0 : Kd.C (Kd.slice 61 k61) w A0 l.length l) (hc0 : l.length ≤ c0) (hr1 : Kd.C (Kd.int .i64) w K p.length p) (hc1 : p.length ≤ ck) (hok : okR l = true) (lp : p.length ≤ 1000000) (hp : ∀ x ∈ l, placesIn p x = true) :
    Calls Tryz.prog 72 #[.slice A0 l.length c0, .slice K p.length ck] w fun e w' => ∃ (gs gb : Nat) (v : Value), e = .returned (.func (.func 111) #[] #[.pointer (some ⟨gs, 0, none⟩), .pointer (some ⟨gb, 0, none⟩)]) ∧
      w'.heap[gs]? = some (.cells #[v] 22 (0, 0)) ∧ w'.heap[gb]? = some (.cells #[.slice K p.length ck] 34 (0, 0)) ∧ Kd.S (Kd.slice 61 k61) 40 w' w.heap.size (fun _ => True) v (sortBy (cfP p) l) ∧ Below w.heap.size w w' := by
  have HCP := Aside0.mk (fun W (hb : Below w.heap.size w W) => rows_Copy_s.calls A0 c0 l l W (Kd.C_below hr0 hb) hc0 (by unfold rows_Copy_s.f; rw [if_pos hok]))
  have HB0 := Aside0.mk (below_alloc (Below.refl w.heap.size w) (.cells #[.slice K p.length ck] 34))
  have HX0 := Aside0.mk (blk_new w (.cells #[.slice K p.length ck] 34))
  have HS := Aside0.mk (fun (v : Value) (W : World) (hb : Below w.heap.size w W) (hx : W.heap[w.heap.size]? = some (.cells #[.slice K p.length ck] 34 (0, 0))) hS => sortPart.calls w.heap.size K ck p v l w W hb hx hc1 hr1 hS hok lp hp)
  have HL : Aside0 (l.length ≤ 1000000) := ⟨(okR_spec hok).1⟩
  clear hr0 hc0 hr1 hc1 hok lp hp
  generalize sortBy (cfP p) l = res at HS ⊢
  obtain ⟨n, hn⟩ : ∃ n, n = l.length := ⟨_, rfl⟩
  rw [← hn] at HCP ⊢
  have HN := Aside0.mk hn
  clear hn
  generalize p.length = np at HB0 HX0 HS ⊢
  go_enter Tryz.func72, Tryz.ntmps72
  go_wp2_with (first
    | (go_at_call 59; refine (HCP.out _ HB0.out).mono ?_; rintro e w2 ⟨v2, rfl, hv2, hb2⟩; obtain ⟨A2, c2, rfl⟩ := Kd.S_slice hv2; have HV2 := Aside0.mk (Kd.S_lower hv2 HB0.out.size); have HX2 := Aside0.mk (blk_below HX0.out hb2); have HB2 := Aside0.mk (below_step HB0.out hb2); clear hv2 hb2 HCP)
    | (go_at_call 60; have hbx : (w2.alloc (.cells #[.slice A2 l.length c2] 22)).heap[w2.heap.size]? = some (.cells #[.slice A2 l.length c2] 22 (0, 0)) := blk_new w2 _; have hbx6 := blk_alloc HX2.out (.cells #[.slice A2 l.length c2] 22); have hsA := Kd.S_alloc HV2.out (.cells #[.slice A2 l.length c2] 22); have hbA := below_alloc HB2.out (.cells #[.slice A2 l.length c2] 22); refine (HS.out _ _ hbA hbx6 hsA).mono ?_; rintro e w5 ⟨rfl, hv5, hg5, hb5⟩; have hn5 := Kd.S_ne hsA hbx (show 40 ≠ 22 by decide); have hn6 := Kd.S_ne hsA hbx6 (show 40 ≠ 34 by decide); have HX5 := Aside0.mk (blk_grown hbx hg5 hn5); have HX6 := Aside0.mk (blk_grown hbx6 hg5 hn6); have HV5 := Aside0.mk hv5; have HB5 := Aside0.mk (hb5 w.heap.size w (Nat.le_refl _) hbA hbA.size); clear hbx hbx6 hsA hbA hn5 hn6; clear hv5 hg5 hb5))
  go_ret
  exact ⟨_, _, _, rfl, HX5.out, HX6.out, HV5.out, HB5.out⟩
end
section
open Go.Shelf
set_option maxRecDepth 100000 in
set_option maxHeartbeats 8000000 in
theorem parted2.calls (l gs gb c : Nat) (ad : Addr) (A : Option Addr) (K : Option Addr) (ck : Nat) (p : List Int) (s : List (List V)) (wn W : World) (hA : 0 < s.length → A = some ad)
    (hgs : wn.cell? ⟨gs, 0, none⟩ = some (.slice A s.length c)) (hgb : wn.cell? ⟨gb, 0, none⟩ = some (.slice K p.length ck)) (hsc : s.length ≤ c) (hck : p.length ≤ ck) (hS : Kd.C (Kd.slice 61 k61) wn A s.length s) (hK : Kd.C (Kd.int .i64) wn K p.length p) (hok : okR s = true) (lp : p.length ≤ 1000000) (hp : ∀ x ∈ s, placesIn p x = true)
    (hb0 : Below wn.heap.size wn W) (J Jx : List (Nat × Nat) → World → Prop) (hJ : AbidesFrom W.heap.size J)
    (hY : ∀ pre x W1, J pre W1 → pre.length < s.length → YieldAt Fence.wide 2 Tryz.prog l #[encP ad x] W1 fun e W' => (e = .returned (.bool true) ∧ J (pre ++ [x]) W' ∧ Below wn.heap.size W1 W') ∨ (e = .returned (.bool false) ∧ Jx (pre ++ [x]) W'))
    (h0 : J [] W) :
    Calls Tryz.prog 111 (#[.func (.yield l) #[] #[]] ++ #[.pointer (some ⟨gs, 0, none⟩), .pointer (some ⟨gb, 0, none⟩)]) W fun e W' => (∃ v, e = .returned v) ∧
      ((∃ xs, (xs.map (segL s) = runs (atP p) s ∧ ∀ x ∈ xs, x.1 ≤ x.2 ∧ x.2 ≤ s.length) ∧ J xs W') ∨ (∃ pre, Jx pre W')) := by
  have mixed : Tryz.prog.follows .mixedOrders = true := by kernel_rfl
  have hl := okR_spec hok
  have HAT := Aside0.mk (fun (x : List V) (hx : placesIn p x = true) (A1 : Option Addr) (c1 : Nat) (W1 : World) (hb : Below wn.heap.size wn W1) (hc1 : x.length ≤ c1) (hC : Kd.C k61 W1 A1 x.length x) => rows_At_s.grows A1 c1 x K ck p (atP p x) W1 hC hc1 (Kd.C_below hK hb) hck (by unfold rows_At_s.f; rw [if_pos ⟨lp, hx⟩]))
  have HLP : Aside0 (∀ x : List V, (atP p x).length ≤ 4611686018427387904) := ⟨fun x => by unfold atP; rw [List.length_map]; omega⟩
  have HS := Aside0.mk hS
  have HP := Aside0.mk hp
  have HA := Aside0.mk hA
  have HJA := Aside0.mk hJ
  have HY := Aside0.mk hY
  have HB0 := Aside0.mk hb0
  have H0 := Aside0.mk h0
  obtain ⟨n, hn⟩ : ∃ n, n = s.length := ⟨_, rfl⟩
  have hle : n ≤ 1000000 := by omega
  rw [← hn] at hgs hsc
  have HN := Aside0.mk hn
  generalize hnp : p.length = np at hgb HAT
  clear hA hck hS hK hok lp hp hb0 hJ hY h0 hl hn
  go_enter Tryz.func111, Tryz.ntmps111
  go_wp2
  go_loopg [4, 5] n (fun gg s4 _ wr => ∃ (i : Nat) (pre : List (Nat × Nat)), i ≤ n ∧ n - i ≤ gg ∧ s4 = .int .i64 i ∧ Aside0 (Below wn.heap.size wn wr) ∧ Aside0 (J pre wr) ∧ Aside0 (pre.length ≤ i ∧ (∀ x ∈ pre, x.1 ≤ x.2 ∧ x.2 ≤ s.length) ∧ pre.map (segL s) ++ runs (atP p) (s.drop i) = runs (atP p) s))
  case atStart => exact ⟨0, [], Nat.zero_le _, by omega, rfl, HB0, H0, ⟨Nat.le_refl _, (fun x hx => by cases hx), rfl⟩⟩
  case round =>
    clear HB0 H0
    obtain ⟨i, pre, hi, hg, rfl, HB, HJ, HPR⟩ := hrel
    have hc1 := kept_cell HB.out rfl hgs
    have hc2 := kept_cell HB.out rfl hgb
    by_cases hlt : i < n
    · have hltz : (i : Int) < (n : Int) := by omega
      go_wp2
      go_loopg [5] n (fun gg2 s5 wr => ∃ j : Nat, i < j ∧ j ≤ n ∧ n - j ≤ gg2 ∧ s5 = .int .i64 j ∧ Aside0 (Below wn.heap.size wn wr) ∧ Aside0 (J pre wr) ∧ Aside0 (∀ (m : Nat) (hm : m < s.length) (hi : i < s.length), i ≤ m → m < j → atP p s[m] = atP p s[i]))
      case atStart => exact ⟨i + 1, by omega, by omega, by omega, by go_num, HB, HJ, ⟨fun m hm hi h1 h2 => by
        have : m = i := by omega
        subst this
        rfl⟩⟩
      case round =>
        clear HB HJ hc1 hc2
        obtain ⟨j, hij, hj, hg2, rfl, HBq, HJq, HKq⟩ := hrel
        have d1 := kept_cell HBq.out rfl hgs
        have d2 := kept_cell HBq.out rfl hgb
        by_cases hjn : j < n
        · have hjz : (j : Int) < (n : Int) := by omega
          have i0 : (0 : Int) ≤ (i : Int) := by omega
          have j0 : (0 : Int) ≤ (j : Int) := by omega
          have his : i < s.length := by have := HN.out; omega
          have hjs : j < s.length := by have := HN.out; omega
          obtain ⟨ad1, Ax, cx, hAd1, x0, hlx, hCx⟩ := row_cell HS.out i his
          obtain ⟨ad2, Ay, cy, hAd2, y0, hly, hCy⟩ := row_cell HS.out j hjs
          have hAd := HA.out (by omega)
          obtain rfl : ad1 = ad := Option.some.inj (hAd1.symm.trans hAd)
          obtain rfl : ad2 = ad1 := Option.some.inj (hAd2.symm.trans hAd)
          subst hAd
          clear hAd1 hAd2
          have hjc : (j : Int) ≤ (c : Int) := by omega
          have hij2 : (i : Int) ≤ (j : Int) := by omega
          replace x0 := kept_cell HBq.out rfl x0
          replace y0 := kept_cell HBq.out rfl y0
          have HAX := Aside0.mk (fun W1 (hb : Below wn.heap.size wn W1) => HAT.out s[i] (HP.out _ (List.getElem_mem his)) Ax cx W1 hb hlx (Kd.C_below hCx hb))
          have HAY := Aside0.mk (fun W1 (hb : Below wn.heap.size wn W1) => HAT.out s[j] (HP.out _ (List.getElem_mem hjs)) Ay cy W1 hb hly (Kd.C_below hCy hb))
          have HOR := Aside0.mk (fun W1 A1 A2 c1 c2 (h1 : Kd.C k61 W1 A1 (atP p s[i]).length (atP p s[i])) (h2 : Kd.C k61 W1 A2 (atP p s[j]).length (atP p s[j])) => rows_Order.grows A1 A2 c1 c2 (atP p s[i]) (atP p s[j]) (cfR (atP p s[i]) (atP p s[j])) W1 h1 h2 (by unfold rows_Order.f; rw [if_pos ⟨HLP.out _, HLP.out _⟩]))
          have HEQ : Aside0 (cfR (atP p s[i]) (atP p s[j]) = 0 ↔ atP p s[i] = atP p s[j]) := ⟨⟨cfR_tc.same _ _, fun h => by rw [h]; exact cfR_tc.refl _⟩⟩
          generalize cfR (atP p s[i]) (atP p s[j]) = r at HOR HEQ
          generalize s[i].length = xlen at x0 HAX
          generalize s[j].length = ylen at y0 HAY
          clear hlx hly hCx hCy
          by_cases hr : r = 0
          · have hrz : (r == 0) = true := by rw [hr]; rfl
            go_wp2_with fail
            go_region_held3 (fun w' => w'.cell? ⟨gs, 0, none⟩ = some (.slice (some ad2) n c) ∧ w'.cell? ⟨gb, 0, none⟩ = some (.slice K np ck) ∧ w'.cell? (ad2.add i) = some (.slice Ax xlen cx) ∧ w'.cell? (ad2.add j) = some (.slice Ay ylen cy))
              (first | exact k3 | exact k2 | exact k1 | exact ⟨d1, d2, x0, y0⟩ | go_keep)
              (first
            | (go_at_call 110; refine (HAX.out _ (by first | exact HBq.out | exact yD HBq.out)).mono ?_; rintro e w1 ⟨v1, rfl, hv1, hb1⟩; clear HAX; obtain ⟨Ao1, co1, rfl⟩ := Kd.R_slice hv1; have HV1 := Aside0.mk (Kd.R_reads' hv1).2.2; have k1 := And.intro (cell_keeps hb1.b d1) (And.intro (cell_keeps hb1.b d2) (And.intro (cell_keeps hb1.b x0) (cell_keeps hb1.b y0))); have HB1 := Aside0.mk (below_step (by first | exact HBq.out | exact yD HBq.out) hb1.b); have HW1 := Aside0.mk (below_step (by first | exact Below.refl wr.heap.size wr | exact yD (Below.refl wr.heap.size wr)) hb1.b); clear hv1 hb1)
            | (go_at_call 110; refine (HAY.out _ HB1.out).mono ?_; rintro e w2 ⟨v2, rfl, hv2, hb2⟩; obtain ⟨Ao2, co2, rfl⟩ := Kd.R_slice hv2; have HV2 := Aside0.mk (Kd.R_reads' hv2).2.2; have HV1b := Aside0.mk (Kd.C_below HV1.out hb2.b); have k2 := And.intro (cell_keeps hb2.b k1.1) (And.intro (cell_keeps hb2.b k1.2.1) (And.intro (cell_keeps hb2.b k1.2.2.1) (cell_keeps hb2.b k1.2.2.2))); have HB2 := Aside0.mk (below_step HB1.out hb2.b); have HW2 := Aside0.mk (below_step HW1.out hb2.b); clear hv2 hb2)
            | (go_at_call 63; refine (HOR.out _ _ _ _ _ HV1b.out HV2.out).mono ?_; rintro e w3 ⟨rfl, hb3⟩; have k3 := And.intro (cell_keeps hb3.b k2.1) (And.intro (cell_keeps hb3.b k2.2.1) (And.intro (cell_keeps hb3.b k2.2.2.1) (cell_keeps hb3.b k2.2.2.2))); have HB3 := Aside0.mk (below_step HB2.out hb3.b); have HW3 := Aside0.mk (below_step HW2.out hb3.b); clear hb3))
            all_goals
              go_wp2
              go_roundg (n - (j + 1))
              case measure => omega
              case rel => exact ⟨j + 1, by omega, by omega, by omega, by go_num, HB3, ⟨abide_below HJA.out HJq.out HW3.out⟩, ⟨fun m hm hi h1 h2 => by
                by_cases e : m = j
                · subst e
                  exact (HEQ.out.1 hr).symm
                · exact HKq.out m hm hi h1 (by omega)⟩⟩
          · have hrz : (r == 0) = false := by simpa using hr
            go_wp2_with fail
            go_region_held3 (fun w' => w'.cell? ⟨gs, 0, none⟩ = some (.slice (some ad2) n c) ∧ w'.cell? ⟨gb, 0, none⟩ = some (.slice K np ck) ∧ w'.cell? (ad2.add i) = some (.slice Ax xlen cx) ∧ w'.cell? (ad2.add j) = some (.slice Ay ylen cy))
              (first | exact k3 | exact k2 | exact k1 | exact ⟨d1, d2, x0, y0⟩ | go_keep)
              (first
            | (go_at_call 110; refine (HAX.out _ (by first | exact HBq.out | exact yD HBq.out)).mono ?_; rintro e w1 ⟨v1, rfl, hv1, hb1⟩; clear HAX; obtain ⟨Ao1, co1, rfl⟩ := Kd.R_slice hv1; have HV1 := Aside0.mk (Kd.R_reads' hv1).2.2; have k1 := And.intro (cell_keeps hb1.b d1) (And.intro (cell_keeps hb1.b d2) (And.intro (cell_keeps hb1.b x0) (cell_keeps hb1.b y0))); have HB1 := Aside0.mk (below_step (by first | exact HBq.out | exact yD HBq.out) hb1.b); have HW1 := Aside0.mk (below_step (by first | exact Below.refl wr.heap.size wr | exact yD (Below.refl wr.heap.size wr)) hb1.b); clear hv1 hb1)
            | (go_at_call 110; refine (HAY.out _ HB1.out).mono ?_; rintro e w2 ⟨v2, rfl, hv2, hb2⟩; obtain ⟨Ao2, co2, rfl⟩ := Kd.R_slice hv2; have HV2 := Aside0.mk (Kd.R_reads' hv2).2.2; have HV1b := Aside0.mk (Kd.C_below HV1.out hb2.b); have k2 := And.intro (cell_keeps hb2.b k1.1) (And.intro (cell_keeps hb2.b k1.2.1) (And.intro (cell_keeps hb2.b k1.2.2.1) (cell_keeps hb2.b k1.2.2.2))); have HB2 := Aside0.mk (below_step HB1.out hb2.b); have HW2 := Aside0.mk (below_step HW1.out hb2.b); clear hv2 hb2)
            | (go_at_call 63; refine (HOR.out _ _ _ _ _ HV1b.out HV2.out).mono ?_; rintro e w3 ⟨rfl, hb3⟩; have k3 := And.intro (cell_keeps hb3.b k2.1) (And.intro (cell_keeps hb3.b k2.2.1) (And.intro (cell_keeps hb3.b k2.2.2.1) (cell_keeps hb3.b k2.2.2.2))); have HB3 := Aside0.mk (below_step HB2.out hb3.b); have HW3 := Aside0.mk (below_step HW2.out hb3.b); clear hb3))
            all_goals
              have HJ3 := Aside0.mk (abide_below HJA.out HJq.out HW3.out)
              have e1 := k3.1
              go_upto_region 5 with (fail)
              obtain ⟨fn, tmps, assign, body, hy, hR⟩ := HY.out pre (i, j) _ HJ3.out (by have := HPR.out.1; have := HN.out; omega)
              dsimp only [encP] at hy
              refine (wpIn_wide (n := 3)).1 ?_
              gi_wp2
              refine hR.mono ?_
              rintro e W4 (⟨rfl, hJ4, hk4⟩ | ⟨rfl, hJx4⟩)
              · gi_wp2
                go_wp2
                go_roundg (n - j)
                case measure => omega
                case rel =>
                  refine ⟨j, pre ++ [(i, j)], hj, by omega, rfl, ⟨HB3.out.trans hk4⟩, ⟨hJ4⟩, ⟨?_, ?_, ?_⟩⟩
                  · rw [List.length_append, List.length_singleton]
                    have := HPR.out.1
                    omega
                  · intro x hx
                    rcases List.mem_append.1 hx with h | h
                    · exact HPR.out.2.1 x h
                    · rw [List.mem_singleton.1 h]
                      exact ⟨by omega, by have := HN.out; omega⟩
                  · rw [List.map_append, List.append_assoc, ← HPR.out.2.2, runs_seg (atP p) s i j his (by have := HN.out; omega) hij (fun m hm h1 h2 => HKq.out m hm his h1 h2) (fun h e => hr (HEQ.out.2 e.symm))]
                    rfl
              · gi_wp2
                go_wp2
                refine bodyPost_ret (results_none rfl _ _ _) rfl ?_
                exact ⟨⟨_, rfl⟩, .inr ⟨pre ++ [(i, j)], hJx4⟩⟩
        · have hjz3 : ¬ (j : Int) < (n : Int) := by omega
          have hjz2 : decide ((j : Int) < (n : Int)) = false := decide_eq_false hjz3
          have his : i < s.length := by have := HN.out; omega
          have hAd := HA.out (by omega)
          subst hAd
          have hjc : (j : Int) ≤ (c : Int) := by omega
          have hij2 : (i : Int) ≤ (j : Int) := by omega
          go_wp2_with fail
          go_quiet (fail)
          have HBq2 := Aside0.mk (yN HBq.out nq)
          have HJ3 := Aside0.mk (abide_below HJA.out HJq.out (yN (Below.refl wr.heap.size wr) nq))
          have e1 : (wr.drewN nq).cell? ⟨gs, 0, none⟩ = some (.slice (some ad) n c) := d1
          go_upto_region 5 with (fail)
          obtain ⟨fn, tmps, assign, body, hy, hR⟩ := HY.out pre (i, j) _ HJ3.out (by have := HPR.out.1; have := HN.out; omega)
          dsimp only [encP] at hy
          refine (wpIn_wide (n := 3)).1 ?_
          gi_wp2
          refine hR.mono ?_
          rintro e W4 (⟨rfl, hJ4, hk4⟩ | ⟨rfl, hJx4⟩)
          · gi_wp2
            go_wp2
            go_roundg (n - j)
            case measure => omega
            case rel =>
              refine ⟨j, pre ++ [(i, j)], hj, by omega, rfl, ⟨HBq2.out.trans hk4⟩, ⟨hJ4⟩, ⟨?_, ?_, ?_⟩⟩
              · rw [List.length_append, List.length_singleton]
                have := HPR.out.1
                omega
              · intro x hx
                rcases List.mem_append.1 hx with h | h
                · exact HPR.out.2.1 x h
                · rw [List.mem_singleton.1 h]
                  exact ⟨by omega, by have := HN.out; omega⟩
              · rw [List.map_append, List.append_assoc, ← HPR.out.2.2, runs_seg (atP p) s i j his (by have := HN.out; omega) hij (fun m hm h1 h2 => HKq.out m hm his h1 h2) (fun h => absurd h (by have := HN.out; omega))]
                rfl
          · gi_wp2
            go_wp2
            refine bodyPost_ret (results_none rfl _ _ _) rfl ?_
            exact ⟨⟨_, rfl⟩, .inr ⟨pre ++ [(i, j)], hJx4⟩⟩
    · have hltz : decide (i < n) = false := by simpa using hlt
      have HE : Aside0 (pre.map (segL s) = runs (atP p) s) := ⟨by
        have h := HPR.out.2.2
        rw [List.drop_of_length_le (show s.length ≤ i by have := HN.out; omega)] at h
        rw [← h]
        exact (List.append_nil _).symm⟩
      go_wp2
      go_end0
      exact ⟨⟨_, rfl⟩, .inl ⟨pre, ⟨HE.out, HPR.out.2.1⟩, HJ.out⟩⟩
end
section
open Go.Shelf
attribute [local go_sem] Oper.semAt_some
set_option maxRecDepth 100000 in
set_option maxHeartbeats 4000000 in
theorem appendSeq.calls (gs gb c : Nat) (ad : Addr) (A : Option Addr) (K : Option Addr) (ck : Nat) (p : List Int) (s : List (List V)) (w : World) (hA : 0 < s.length → A = some ad)
    (hgs : w.cell? ⟨gs, 0, none⟩ = some (.slice A s.length c)) (hgb : w.cell? ⟨gb, 0, none⟩ = some (.slice K p.length ck)) (hsc : s.length ≤ c) (hck : p.length ≤ ck) (hS : Kd.C (Kd.slice 61 k61) w A s.length s) (hK : Kd.C (Kd.int .i64) w K p.length p) (hok : okR s = true) (lp : p.length ≤ 1000000) (hp : ∀ x ∈ s, placesIn p x = true) :
    Calls Tryz.prog 107 #[.slice none 0 0, .func (.func 111) #[] #[.pointer (some ⟨gs, 0, none⟩), .pointer (some ⟨gb, 0, none⟩)]] w fun e W' => ∃ (v : Value) (xs : List (Nat × Nat)), e = .returned v ∧
      W'.ownsRow w.heap.size 22 1 v xs.length (xs.map (encP ad)) ∧ xs.map (segL s) = runs (atP p) s ∧ (∀ x ∈ xs, x.1 ≤ x.2 ∧ x.2 ≤ s.length) ∧ Below w.heap.size w W' := by
  obtain ⟨i0, hi, hz0, hz1, hz2⟩ := info_parts info22
  have bO := Boxed.new w 55 (.slice none 0 0)
  have hB0 : Below w.heap.size w (w.alloc (.cells #[.slice none 0 0] 55)) := (Below.refl _ w).alloc (Nat.le_refl _) _
  have hsl := (okR_spec hok).1
  refine (callsIn_wide (n := 4)).1 ?_
  refine callsIn_of_wp_marks Tryz.func107 rfl trivial ?_ rfl
  simp only [Tryz.ntmps107, List.size_toArray, List.length_cons, List.length_nil, Nat.reduceAdd, Nat.reduceSub, Array.replicate_succ, Array.replicate_zero, List.push_toArray, List.append_toArray, List.nil_append, List.cons_append]
  gi_wp2
  refine wpIn_rangeFunc_ownG rfl (by omega) (gf := 111) (lb := #[.pointer (some ⟨gs, 0, none⟩), .pointer (some ⟨gb, 0, none⟩)]) rfl trivial (enters_of Tryz.func111 (by kernel_rfl) rfl)
    (encs := fun x : Nat × Nat => #[encP ad x]) (Kp := Below w.heap.size) (S := fun xs => xs.map (segL s) = runs (atP p) s ∧ ∀ x ∈ xs, x.1 ≤ x.2 ∧ x.2 ≤ s.length) (Sp := fun _ => True) (N := s.length) (w0 := w)
    (fun l J Jx W hW hJ _ hY h0 => callsIn_wide.2 ((parted2.calls l gs gb c ad A K ck p s w W hA hgs hgb hsc hck hS hK hok lp hp hW J Jx hJ hY h0).mono (by
      rintro e W' ⟨hv, h⟩
      exact ⟨hv, h.imp (fun h => h) (fun ⟨pre, h⟩ => ⟨pre, trivial, h⟩)⟩)))
    belowK_t (belowK_b (by simp)) hB0 (fun _ => rfl)
    (fun pre W => (∃ v, Boxed W w.heap.size 55 v ∧ W.ownsRow w.heap.size 22 1 v pre.length (pre.map (encP ad)) ∧ True) ∧ Below w.heap.size w W)
    (fun _ _ _ => False)
    (OwnFrom.and (Own.from (holdsRow_own w.heap.size w.heap.size 55 22 1 (fun pre : List (Nat × Nat) => pre.length) (fun pre => pre.map (encP ad)) (fun _ _ => True)) _) (ownFrom_below (Nat.le_refl _) (by simp)))
    (fun _ _ _ _ _ hs _ _ => hs)
    ⟨⟨_, bO, World.ownsRow_nil _ _ _ _, trivial⟩, hB0⟩
    (fun x => { tmps := #[.slice none 0 0, .func (.func 111) #[] #[.pointer (some ⟨gs, 0, none⟩), .pointer (some ⟨gb, 0, none⟩)], .pointer (some ⟨w.heap.size, 0, none⟩), undef, .slice none 0 0, encP ad x, .func (.func 111) #[] #[.pointer (some ⟨gs, 0, none⟩), .pointer (some ⟨gb, 0, none⟩)], encP ad x, undef, undef, undef, undef, undef], defers := [] }) ?assign ?body ?done ?stop
  case assign =>
    intro l x W K hK
    gi_wp2
    exact hK
  case body =>
    rintro l pre x W ⟨⟨v, hv, hrow, _⟩, hB⟩ hlt
    have hc := hv.cell
    simp only [encP]
    gi_wp2_with (gi_at_builtin; refine wpListIn_append_own _ rfl _ _ 55 rfl w.heap.size 22 i0 (.slice none 0 0) 1 24 Tryz.underlying55 hi hz0 hz1 hz2 rfl (by decide) _ _ _ rfl (hrow.alloc _) ⟨W.heap.size, 0, none⟩ 1 1 [.slice (some (ad.add x.1)) (x.2 - x.1) (x.2 - x.1)] rfl rfl (cell_one_new _ _ _) (by simp [Value.oneCell']) (by unfold maxLen; omega) (by omega) (by have := hB.size; simp; omega) ?_; intro v' w1 hown' hgrow _; obtain ⟨g', cap', rfl⟩ := ownsRow_succ hown'; obtain ⟨hv1, hv2, hr2, hk2, hb2⟩ := hv.appended (by decide) hrow hB.size (Nat.le_refl _) hown' hgrow; have hc1 := hv1.cell; have hf1 := hv1.frozen)
    exact ⟨hk2.from _, hb2, ⟨_, hv2, by rw [List.length_append, List.map_append]; exact hr2, trivial⟩, hB.trans hb2⟩
  case done =>
    rintro D ys W hD hS2 ⟨⟨v, hv, hrow, _⟩, hB⟩ hK2
    have hc := hv.cell
    gi_wp2
    refine ⟨by simp, .inl ⟨_, _, rfl, run_takeDeferred hK2, ?_⟩⟩
    refine ⟨_, results_tmp rfl _ _ _, v, ys, rfl, ownsRow_putObj hrow _ hK2 rfl, hS2.1, hS2.2, hB.trans (belowK_b (w := w) (Nat.le_refl _) W D _ _ (by simp at hD; omega) hK2 rfl rfl)⟩
  case stop =>
    rintro D c pre W _ _ h _
    exact h.elim
end
set_option maxHeartbeats 2000000 in
theorem collect.calls (gs gb c : Nat) (ad : Addr) (A : Option Addr) (K : Option Addr) (ck : Nat) (p : List Int) (s : List (List V)) (w : World) (hA : 0 < s.length → A = some ad)
    (hgs : w.cell? ⟨gs, 0, none⟩ = some (.slice A s.length c)) (hgb : w.cell? ⟨gb, 0, none⟩ = some (.slice K p.length ck)) (hsc : s.length ≤ c) (hck : p.length ≤ ck) (hS : Kd.C (Kd.slice 61 k61) w A s.length s) (hK : Kd.C (Kd.int .i64) w K p.length p) (hok : okR s = true) (lp : p.length ≤ 1000000) (hp : ∀ x ∈ s, placesIn p x = true) :
    Calls Tryz.prog 71 #[.func (.func 111) #[] #[.pointer (some ⟨gs, 0, none⟩), .pointer (some ⟨gb, 0, none⟩)]] w fun e W' => ∃ (v : Value) (xs : List (Nat × Nat)), e = .returned v ∧
      W'.ownsRow w.heap.size 22 1 v xs.length (xs.map (encP ad)) ∧ xs.map (segL s) = runs (atP p) s ∧ (∀ x ∈ xs, x.1 ≤ x.2 ∧ x.2 ≤ s.length) ∧ Below w.heap.size w W' := by
  have HC := Aside0.mk (appendSeq.calls gs gb c ad A K ck p s w hA hgs hgb hsc hck hS hK hok lp hp)
  clear hA hgs hgb hsc hck hS hK hok lp hp
  go_enter Tryz.func71, Tryz.ntmps71
  go_wp2_with (go_at_call 107; refine HC.out.mono ?_; rintro e w1 ⟨v1, xs1, rfl, h1, h2, h3, h4⟩; have H1 := Aside0.mk h1; have H2 := Aside0.mk h2; have H3 := Aside0.mk h3; have H4 := Aside0.mk h4; clear h1 h2 h3 h4)
  go_ret
  exact ⟨_, _, rfl, H1.out, H2.out, H3.out, H4.out⟩
theorem N_cuts {B : Nat} {w W' : World} {ad : Addr} {A : Option Addr} {v : Value} {s : List (List V)} {xs : List (Nat × Nat)} (hA : 0 < s.length → A = some ad)
  (hF : Kd.F (Kd.slice 61 k61) w (fun k => B ≤ k) A s.length s) (hB : B ≤ w.heap.size) (hown : W'.ownsRow w.heap.size 22 1 v xs.length (xs.map (encP ad))) (hx : ∀ x ∈ xs, x.1 ≤ x.2 ∧ x.2 ≤ s.length) (hs : 0 < s.length ∨ xs = []) (hb : Below w.heap.size w W') :
  Kd.N (Kd.slice 40 (Kd.slice 61 k61)) 22 W' w.heap.size (fun k => B ≤ k) v (xs.map (segL s)) := by
 refine ⟨fun k hk => ?_, xs.map (fun x => [encP ad x]), by simp, ⟨fun k hk => hk.symm, xs.map (encP ad), by rw [List.length_map]; exact hown, ⟨by rw [List.length_map, List.length_map]; exact (Nat.mul_one _).symm, fun j p hj => ?_⟩⟩, fun j x cc hx1 hc1 => ?_⟩
 ·rcases hown.2 with ⟨rfl, _⟩ | ⟨g, cap, cur, rfl, hg, _, _⟩
  ·cases hk
  ·have : g = k := Option.some.inj hk
   omega
 ·rw [List.getElem?_map] at hj
  obtain ⟨y, hy, rfl⟩ := Option.map_eq_some_iff.1 hj
  have hj2 := (List.getElem?_eq_some_iff.1 hy)
  obtain ⟨hjl, rfl⟩ := hj2
  have e : (List.drop (j * 1) (xs.map (encP ad))).take 1 = [encP ad xs[j]] := by
   rw [Nat.mul_one, List.drop_eq_getElem_cons (by rw [List.length_map]; exact hjl), List.take_succ_cons, List.getElem_map]
   rfl
  show (List.drop (j * 1) (xs.map (encP ad))).take 1 = [encP ad xs[j]] ∧ ((List.drop (j * 1) (xs.map (encP ad))).take 1).length = 1 ∧ ∀ u ∈ (List.drop (j * 1) (xs.map (encP ad))).take 1, u.oneCell' = true
  rw [e]
  exact ⟨rfl, rfl, fun u hu => by rw [List.mem_singleton.1 hu]; rfl⟩
 ·rw [List.getElem?_map] at hx1 hc1
  obtain ⟨y, hy, rfl⟩ := Option.map_eq_some_iff.1 hx1
  rw [hy] at hc1
  obtain rfl := Option.some.inj hc1
  have hy2 := hx y (List.mem_of_getElem? hy)
  have hpos : 0 < s.length := hs.resolve_right (fun e => by rw [e] at hy; cases hy)
  have hl : (segL s y).length = y.2 - y.1 := by
   unfold segL
   rw [List.length_take, List.length_drop]
   omega
  have h1 := Kd.F_cut (Kd.F_below (Kd.F_bound hF) hb) (m := y.1) (c := s.length + 1) (by omega) (by omega)
  rw [if_neg (by omega), hA hpos] at h1
  have h2 := Kd.F_take h1 (m := y.2 - y.1) (by rw [List.length_drop]; omega)
  have h3 : Kd.F (Kd.slice 61 k61) W' (fun k => B ≤ k ∧ some k ≠ v.ownBlock) (some (ad.add y.1)) (segL s y).length (segL s y) := by
   refine Kd.F_mono (A := some (ad.add y.1)) (n := (segL s y).length) (xs := segL s y) (ok := fun k => B ≤ k ∧ k < w.heap.size) ?_ (fun k hk => ⟨hk.1, fun e => ?_⟩)
   ·have e1 : (some ad).map (fun x => x.add (y.1 * (Kd.slice 61 k61).sz)) = some (ad.add y.1) := by
     show some (ad.add (y.1 * 1)) = _
     rw [Nat.mul_one]
    rw [e1] at h2
    exact h2
   ·rcases hown.2 with ⟨rfl, _⟩ | ⟨g, cap, cur, rfl, hg, _, _⟩
    ·cases e
    ·have : k = g := Option.some.inj e
     have := hk.2
     omega
  have h4 := Kd.FK_slice_mk (e := 40) (c := y.2 - y.1) (by rw [hl]; exact Nat.le_refl _) h3
  rw [hl] at h4
  exact h4
end Go.Proofs.YtmhobbdedmjmnaaGreatDoor.Q
end
section
/- Each function reached is shown to return what the plain function beside it computes, wherever that is defined (written by a program of ours for this seat). -/
namespace Go.Proofs.YtmhobbdedmjmnaaGreatDoor.Q
open Go.RowKit Go.Proofs.YtmhobbdedmjmnaaGreatDoorW.PrintWords Go.Proofs.YtmhobbdedmjmnaaGreatDoorW.PrintLast Go.Proofs.YtmhobbdedmjmnaaGreatDoorW.PrintMore
attribute [local go_sem] max2_int min2_int max_two min_two max_three min_three max_four min_four   -- for this text's walks alone
set_option linter.unusedVariables false
set_option linter.unusedSimpArgs false
theorem groupsLaid.calls (l0 : List (List V)) (A1 : Option Addr) (c1 : Nat) (l1 : List Int) (w : World) (gs gb n c : Nat) (A : Option Addr) (W : World) (hr1 : Kd.C (Kd.int .i64) w A1 l1.length l1) (hc1 : l1.length ≤ c1) (hok : okR l0 = true) (lp : l1.length ≤ 1000000) (hp : ∀ x ∈ l0, placesIn l1 x = true) (hb : Below w.heap.size w W)
    (hgs : W.heap[gs]? = some (.cells #[.slice A n c] 22 (0, 0))) (hgb : W.heap[gb]? = some (.cells #[.slice A1 l1.length c1] 34 (0, 0))) (hS : Kd.S (Kd.slice 61 k61) 40 W w.heap.size (fun _ => True) (.slice A n c) (sortBy (cfP l1) l0)) :
    Calls Tryz.prog 71 #[.func (.func 111) #[] #[.pointer (some ⟨gs, 0, none⟩), .pointer (some ⟨gb, 0, none⟩)]] W fun e w' => ∃ v : Value, e = .returned v ∧ Kd.N (Kd.slice 40 (Kd.slice 61 k61)) 22 w' w.heap.size (fun k => w.heap.size ≤ k) v ((headsR l1 l0).map (groupR l1 l0)) ∧ Below w.heap.size w w' := by
  have hlen : (sortBy (cfP l1) l0).length = l0.length := (sortBy_perm _ _).length_eq
  have hmem : ∀ x, x ∈ sortBy (cfP l1) l0 ↔ x ∈ l0 := fun x => sortBy_mem
  have hok2 : okR (sortBy (cfP l1) l0) = true := by
    have h := okR_spec hok
    unfold okR
    rw [Bool.and_eq_true, decide_eq_true_eq, hlen, List.all_eq_true]
    exact ⟨h.1, fun x hx => decide_eq_true (h.2 x ((hmem x).1 hx))⟩
  obtain ⟨hn, hnc, hC⟩ := Kd.S_reads' hS
  obtain ⟨ad, hA⟩ : ∃ ad, 0 < (sortBy (cfP l1) l0).length → A = some ad := by
    by_cases h0 : 0 < (sortBy (cfP l1) l0).length
    · obtain ⟨g, cap, e, _⟩ := Kd.S_form hS h0
      injection e with e1 _ _
      exact ⟨_, fun _ => e1⟩
    · exact ⟨⟨0, 0, none⟩, fun h => absurd h h0⟩
  subst hn
  refine (collect.calls gs gb c ad A A1 c1 l1 _ W hA (blk_cell hgs 0) (blk_cell hgb 0) hnc hc1 hC (Kd.C_below hr1 hb) hok2 lp (fun x hx => hp x ((hmem x).1 hx))).mono ?_
  rintro e w' ⟨v, xs, rfl, h1, h2, h3, h4⟩
  refine ⟨v, rfl, ?_, below_step hb h4⟩
  have hz : 0 < (sortBy (cfP l1) l0).length ∨ xs = [] := by
    by_cases h0 : 0 < (sortBy (cfP l1) l0).length
    · exact .inl h0
    · refine .inr ?_
      rw [List.eq_nil_of_length_eq_zero (Nat.eq_zero_of_not_pos h0)] at h2
      exact List.map_eq_nil_iff.1 h2
  have h5 := N_cuts hA (Kd.F_mono (Kd.S_F (Kd.S_bound hS)) (fun k hk => hk.2.1)) hb.size h1 h3 hz h4
  rw [h2, runs_groups] at h5
  exact Kd.N_lower h5 hb.size
def rows_Groups.f (l0 : List (List V)) (l1 : List Int) : Option (List (List (List V)) × Int) := if smallE [l0] = 0 then (if okR l0 = true ∧ l1.length ≤ 1000000 then (if placesB l0 l1 = true then some ((headsR l1 l0).map (groupR l1 l0), 0) else some ([], 1)) else none) else some ([], smallE [l0])
set_option maxRecDepth 100000 in
set_option maxHeartbeats 4000000 in
theorem rows_Groups.calls (A0 : Option Addr) (c0 : Nat) (l0 : List (List V)) (A1 : Option Addr) (c1 : Nat) (l1 : List Int) (r1 : List (List (List V))) (r2 : Int) (w : World) (hr0 : Kd.C (Kd.slice 61 k61) w A0 l0.length l0) (hc0 : l0.length ≤ c0) (hr1 : Kd.C (Kd.int .i64) w A1 l1.length l1) (hc1 : l1.length ≤ c1) (h : rows_Groups.f l0 l1 = some (r1, r2)) :
    Calls Tryz.prog 36 #[.slice A0 l0.length c0, .slice A1 l1.length c1] w fun e w' => ∃ v0_ : Value, e = .returned (.tuple #[v0_, .int .i64 r2]) ∧ Kd.N (Kd.slice 40 (Kd.slice 61 k61)) 22 w' w.heap.size (fun k => w.heap.size ≤ k) v0_ r1 ∧ Below w.heap.size w w' := by
  unfold rows_Groups.f at h
  have HS := Aside0.mk (fun W hb => small_one A0 c0 l0 w W hr0 hc0 hb)
  by_cases hs : smallE [l0] = 0
  case neg =>
    rw [if_neg hs] at h
    simp only [Option.some.injEq, Prod.mk.injEq] at h
    obtain ⟨rfl, rfl⟩ := h
    have hs2 : (smallE [l0] != 0) = true := by simpa using hs
    clear hr0 hc0 hr1 hc1 hs
    generalize smallE [l0] = x at HS hs2 ⊢
    generalize l0.length = n0 at HS ⊢
    generalize l1.length = n1 at *
    go_enter Tryz.func36, Tryz.ntmps36
    go_wp2_with (go_at_call 52; refine (HS.out _ (Below.refl _ _)).mono ?_; rintro e w1 ⟨rfl, hb1⟩)
    go_ret2
    exact ⟨_, rfl, Kd.N_nil _ _ _ _ _, hb1⟩
  rw [if_pos hs] at h
  by_cases hk : okR l0 = true ∧ l1.length ≤ 1000000
  case neg => rw [if_neg hk] at h; cases h
  rw [if_pos hk] at h
  rw [hs] at HS
  have HPL := Aside0.mk (fun W (hb : Below w.heap.size w W) => rows_places.calls A0 c0 l0 A1 c1 l1 (placesB l0 l1) W (Kd.C_below hr0 hb) hc0 (Kd.C_below hr1 hb) hc1 (by
    unfold rows_places.f
    have := (okR_spec hk.1).1
    have := hk.2
    rw [if_pos ⟨by omega, by omega⟩]))
  cases hpb : placesB l0 l1 with
  | false =>
    rw [hpb, if_neg (by decide)] at h
    simp only [Option.some.injEq, Prod.mk.injEq] at h
    obtain ⟨rfl, rfl⟩ := h
    rw [hpb] at HPL
    clear hr0 hc0 hr1 hc1 hs hk hpb
    generalize l0.length = n0 at HS HPL ⊢
    generalize l1.length = n1 at *
    go_enter Tryz.func36, Tryz.ntmps36
    go_wp2_with (first
      | (go_at_call 52; refine (HS.out _ (Below.refl _ _)).mono ?_; rintro e w1 ⟨rfl, hb1⟩; have HB1 := Aside0.mk hb1; clear hb1)
      | (go_at_call 58; refine (HPL.out _ HB1.out).mono ?_; rintro e w2 ⟨rfl, hb2⟩; have HB2 := Aside0.mk (below_step HB1.out hb2); clear hb2))
    go_ret2
    exact ⟨_, rfl, Kd.N_nil _ _ _ _ _, HB2.out⟩
  | true =>
    rw [hpb, if_pos rfl] at h
    simp only [Option.some.injEq, Prod.mk.injEq] at h
    obtain ⟨rfl, rfl⟩ := h
    rw [hpb] at HPL
    have hpi : ∀ x ∈ l0, placesIn l1 x = true := fun x hx => placesIn_mk fun q hq => by
      unfold placesB at hpb
      rw [Bool.not_eq_true'] at hpb
      have h1 := (List.any_eq_false.1 hpb) x hx
      rw [Bool.not_eq_true] at h1
      have h2 := (List.any_eq_false.1 h1) q hq
      rw [Bool.not_eq_true, Bool.or_eq_false_iff, decide_eq_false_iff_not, decide_eq_false_iff_not] at h2
      omega
    have HPA := Aside0.mk (fun W (hb : Below w.heap.size w W) => parted.calls A0 c0 l0 A1 c1 l1 W (Kd.C_below hr0 hb) hc0 (Kd.C_below hr1 hb) hc1 hk.1 hk.2 hpi)
    have HCO := Aside0.mk (fun (gs gb n c : Nat) (A : Option Addr) (W : World) (hb : Below w.heap.size w W) hgs hgb hS => groupsLaid.calls l0 A1 c1 l1 w gs gb n c A W hr1 hc1 hk.1 hk.2 hpi hb hgs hgb hS)
    clear hr0 hc0 hr1 hc1 hs hk hpb hpi
    generalize (headsR l1 l0).map (groupR l1 l0) = res at HCO ⊢
    generalize l0.length = n0 at HS HPL HPA ⊢
    generalize l1.length = n1 at *
    go_enter Tryz.func36, Tryz.ntmps36
    go_wp2_with (first
      | (go_at_call 52; refine (HS.out _ (Below.refl _ _)).mono ?_; rintro e w1 ⟨rfl, hb1⟩; have HB1 := Aside0.mk hb1; clear hb1)
      | (go_at_call 58; refine (HPL.out _ HB1.out).mono ?_; rintro e w2 ⟨rfl, hb2⟩; have HB2 := Aside0.mk (below_step HB1.out hb2); clear hb2)
      | (go_at_call 72; refine (HPA.out _ HB2.out).mono ?_; rintro e w3 ⟨gs, gb, v3, rfl, hgs, hgb, hS3, hb3⟩; obtain ⟨A3, c3, rfl⟩ := Kd.S_slice hS3; have HB3 := Aside0.mk (below_step HB2.out hb3); have HC3 := Aside0.mk (HCO.out _ _ _ _ _ _ HB3.out hgs hgb (Kd.S_lower hS3 HB2.out.size)); clear hgs hgb hS3 hb3)
      | (go_at_call 71; refine HC3.out.mono ?_; rintro e w4 ⟨v4, rfl, hv4, hb4⟩; have HV4 := Aside0.mk hv4; have HB4 := Aside0.mk hb4; clear hv4 hb4))
    go_ret2
    exact ⟨_, rfl, HV4.out, HB4.out⟩
def tacticianref02_At.l0 : Nat → List (S61) → List Int → List (S61) → Int → Option ((List (S61)))
  | 0, _, _, _, _ => none
  | k + 1, x0, x1, x5, x6 => if x6 < (x1.length : Int) then (if 0 ≤ x6 then (if 0 ≤ (rd x1 x6) then (if (rd x1 x6) < (x0.length : Int) then (if x5.length < 4398046511104 then (tacticianref02_At.l0 k x0 x1 (x5 ++ [(⟨(rd_T61 x0 (rd x1 x6)).f0, (rd_T61 x0 (rd x1 x6)).f1, (rd_T61 x0 (rd x1 x6)).f2⟩ : S61)]) (wrap64 (x6 + 1))) else (none)) else (none)) else (none)) else (none)) else (some x5)
def tacticianref02_At.f (k : Nat) (l0 : List (S61)) (l1 : List Int) : Option ((List (S61))) := tacticianref02_At.l0 k l0 l1 ([] : List (S61)) 0
set_option maxHeartbeats 8000000 in
set_option maxRecDepth 100000 in
theorem tacticianref02_At.calls (k : Nat) (A0 : Option Addr) (c0 : Nat) (l0 : List (S61)) (A1 : Option Addr) (c1 : Nat) (l1 : List Int) (r : List (S61)) (w : World) (hr0 : Kd.C k61 w A0 l0.length l0) (hc0 : l0.length ≤ c0) (hr1 : Kd.C (Kd.int .i64) w A1 l1.length l1) (hc1 : l1.length ≤ c1) (h : tacticianref02_At.f k l0 l1 = some r) :
  Calls Tryz.prog 47 #[.slice A0 l0.length c0, .slice A1 l1.length c1] w fun e w' => ∃ v0_ : Value, e = .returned (v0_) ∧ Kd.R k61 61 w' w.heap.size (fun _ => True) v0_ r ∧ Below w.heap.size w w' := by
 have hu61 := Tryz.underlying61
 have HR0 := Aside0.mk hr0
 have HC0 := Aside0.mk hc0
 clear hr0 hc0
 have HR1 := Aside0.mk hr1
 have HC1 := Aside0.mk hc1
 clear hr1 hc1
 have HB := Aside0.mk (Below.refl w.heap.size w)
 have H : (tacticianref02_At.l0 k l0 l1 ([] : List (S61)) 0) = some r := h
 clear h
 have H' := Aside0.mk H
 clear H
 go_enter Tryz.func47, Tryz.ntmps47
 go_wp2
 go_loopg [5, 6] k (fun kq v5 v6 w' => ∃ (x5_1 : List (S61)) (x6_1 : Int), v6 = .int .i64 x6_1 ∧ Aside0 (tacticianref02_At.l0 kq l0 l1 x5_1 x6_1 = some r) ∧ Aside0 (kq ≤ k) ∧ Aside0 (Kd.R k61 61 w' w.heap.size (fun _ => True) v5 x5_1) ∧ Aside0 (Below w.heap.size w w'))
 case atStart => exact ⟨(([] : List (S61))), (0), (by first | rfl | (simp; done) | (simp [*]; done)), H', ⟨Nat.le_refl _⟩, ⟨by first | exact Kd.R_nil _ _ _ _ _ | exact Kd.N_nil _ _ _ _ _ | exact Kd.V_nil _ _ _ _ _ | exact Kd.Q_nil _ _ _ _ _ | exact Kd.S_nil _ _ _ _ _⟩, ⟨by repeat (first | (with_reducible first | exact HB.out | apply yA | apply yN | apply yD) | exact HB.out)⟩⟩
 case round =>
  clear H'
  try clear c1
  try clear p2
  obtain ⟨x5_1, x6_1, rfl, HA, HK1, HO_5, HB⟩ := hrel
  cases gk with
  | zero => exact absurd HA.out (by simp [tacticianref02_At.l0])
  | succ k1 =>
   have H := HA.out
   clear HA
   simp only [tacticianref02_At.l0] at H
   by_cases c3 : x6_1 < (l1.length : Int)
   ·rw [if_pos c3] at H
    have c3b0 : decide (x6_1 < (l1.length : Int)) = true := decide_eq_true c3
    clear c3
    by_cases c4 : 0 ≤ x6_1
    ·rw [if_pos c4] at H
     have c4b0 : decide (0 ≤ x6_1) = true := decide_eq_true c4
     clear c4
     by_cases c5 : 0 ≤ (rd l1 x6_1)
     ·rw [if_pos c5] at H
      have c5b0 : decide (0 ≤ (rd l1 x6_1)) = true := decide_eq_true c5
      clear c5
      by_cases c6 : (rd l1 x6_1) < (l0.length : Int)
      ·rw [if_pos c6] at H
       have c6b0 : decide ((rd l1 x6_1) < (l0.length : Int)) = true := decide_eq_true c6
       clear c6
       by_cases c7 : x5_1.length < 4398046511104
       ·rw [if_pos c7] at H
        have LMc7 := Aside0.mk c7
        clear c7
        obtain ⟨y474, hy474⟩ : ∃ y_ : List (S61), y_ = (x5_1 ++ [(⟨(rd_T61 l0 (rd l1 x6_1)).f0, (rd_T61 l0 (rd l1 x6_1)).f1, (rd_T61 l0 (rd l1 x6_1)).f2⟩ : S61)]) := ⟨_, rfl⟩
        replace H : (tacticianref02_At.l0 k1 l0 l1 y474 (wrap64 (x6_1 + 1))) = some r := by first | (rw [hy474]; with_reducible exact H) | (have H2_ := (Option.bind_some _ _).symm.trans H; rw [hy474]; with_reducible exact H2_) | (have H2_ := (Option.bind_some _ _).symm.trans H; with_reducible exact H2_) | with_reducible exact H | (rw [hy474]; exact H) | exact H
        have Ny474 := Aside0.mk hy474
        clear hy474
        have H' := Aside0.mk H
        clear H
        have p472 : 0 ≤ (x6_1 : Int) := of_decide_eq_true (by first | (with_reducible assumption) | assumption)
        have q472 : x6_1 < (l1.length : Int) := of_decide_eq_true (by first | (with_reducible assumption) | assumption)
        obtain ⟨ad472, e472, hx472_0⟩ := Kd.at_int HR1.out x6_1 p472 q472
        cases e472
        replace hx472_0 := (HB.out.cell (World.block_lt_of_cell? w _ hx472_0)).trans hx472_0
        replace p472 := eq_true p472
        replace q472 := eq_true q472
        have p473 : 0 ≤ ((rd l1 x6_1) : Int) := of_decide_eq_true (by first | (with_reducible assumption) | assumption)
        have q473 : (rd l1 x6_1) < (l0.length : Int) := of_decide_eq_true (by first | (with_reducible assumption) | assumption)
        obtain ⟨ad473, e473, hx473_0, hx473_1, hx473_2⟩ := at_T61 HR0.out (rd l1 x6_1) p473 q473
        cases e473
        replace hx473_0 := (HB.out.cell (World.block_lt_of_cell? w _ hx473_0)).trans hx473_0
        replace hx473_1 := (HB.out.cell (World.block_lt_of_cell? w _ hx473_1)).trans hx473_1
        replace hx473_2 := (HB.out.cell (World.block_lt_of_cell? w _ hx473_2)).trans hx473_2
        replace p473 := eq_true p473
        replace q473 := eq_true q473
        go_wp2_with (first | ((with_reducible refine gate_builtin (b := .append) (xs := #[.tmp 13, .tmp 21]) rfl ?_); at_builtin; refine Kd.R_append k61 (w0 := w) w.heap.size rfl (.tmp 13) (.tmp 21) 40 61 (.agg #[(.int .i64 0), (.int .i64 0), (.string ⟨#[]⟩)]) 32 rfl Tryz.underlying40 info61 rfl (by decide) (by omega) u5 x5_1 (⟨(rd_T61 l0 (rd l1 x6_1)).f0, (rd_T61 l0 (rd l1 x6_1)).f1, (rd_T61 l0 (rd l1 x6_1)).f2⟩ : S61) [.int .i64 ((rd_T61 l0 (rd l1 x6_1)).f0), .int .i64 ((rd_T61 l0 (rd l1 x6_1)).f1), .string ((rd_T61 l0 (rd l1 x6_1)).f2)] (fun _ => True) (fun _ => False) rfl rfl ?aP (fun _ hk => hk.elim) ?aF ?aO ?aB ?aS ?aL ?_; (case aP => exact k61_mkM _ _ _ (⟨(rd_T61 l0 (rd l1 x6_1)).f0, (rd_T61 l0 (rd l1 x6_1)).f1, (rd_T61 l0 (rd l1 x6_1)).f2⟩ : S61)); (case aB => exact (by repeat (first | (with_reducible first | exact HB.out | apply yA | apply yN | apply yD) | exact HB.out))); (case aF => exact (fun _ _ => trivial)); (case aO => exact (by (with_reducible repeat (first | apply Kd.R_alloc | apply Kd.R_drewN | apply Kd.R_drew)); exact HO_5.out)); (case aS => exact (below_size (by repeat (first | (with_reducible first | exact HB.out | apply yA | apply yN | apply yD) | exact HB.out)))); (case aL => have := LMc7.out; omega); intro v475 w8 ho hb hg hat; rw [← Ny474.out] at ho; have n0_ := Aside0.mk (hb); have n1_ := Aside0.mk (ho); clear HB; clear HO_5; have HB := n0_; have HO476 := n1_; clear n0_ n1_; clear ho hb hg hat))
        go_roundg k1
        case measure => have := HK1.out; omega
        case rel => exact ⟨(y474), (wrap64 (x6_1 + 1)), (by first | rfl | (simp; done) | (simp [*]; done)), H', ⟨by have := HK1.out; omega⟩, ⟨by (with_reducible repeat (first | apply Kd.R_alloc | apply Kd.R_drewN | apply Kd.R_drew)); exact HO476.out⟩, ⟨by repeat (first | (with_reducible first | exact HB.out | apply yA | apply yN | apply yD) | exact HB.out)⟩⟩
       ·rw [if_neg c7] at H
        exact absurd H (by simp)
      ·rw [if_neg c6] at H
       exact absurd H (by simp)
     ·rw [if_neg c5] at H
      exact absurd H (by simp)
    ·rw [if_neg c4] at H
     exact absurd H (by simp)
   ·rw [if_neg c3] at H
    have c3b0 : decide (x6_1 < (l1.length : Int)) = false := decide_eq_false c3
    clear c3
    obtain rfl := Option.some.inj H
    go_wp2
    go_ret
    exact ⟨_, by first | rfl | (simp [errW_none, errW_some] <;> rfl) | (simp [*, errW_none, errW_some] <;> rfl), by (with_reducible repeat (first | apply Kd.R_alloc | apply Kd.R_drewN | apply Kd.R_drew)); exact HO_5.out, by repeat (first | (with_reducible first | exact HB.out | apply yA | apply yN | apply yD) | exact HB.out)⟩
end Go.Proofs.YtmhobbdedmjmnaaGreatDoor.Q
end
