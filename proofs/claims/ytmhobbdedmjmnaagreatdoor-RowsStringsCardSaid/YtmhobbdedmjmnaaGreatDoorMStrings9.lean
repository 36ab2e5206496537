/- Proved: the card of the statement RowsStrings, under the conditions of the given statements alone (written by a program of ours for this seat). -/
import Derived.ProofKit
import Derived.SizedLaws
import Derived.Deep.Slices
import Derived.Deep.Strs
import Derived.ChangeSame
import Derived.Test.YtmhobbdedmjmnaaGreatDoorRows
import Derived.HandedShaped
import Derived.Handed
import Derived.LaidLaws
import Derived.LaidHandle
import Derived.LaidMore
import Derived.Stop.LaidErr
import Derived.Lib.LaidTab
import Derived.Lib.LaidRTab
import Derived.Shelf.Vars
import Derived.Lib.LaidIn
import Derived.PinnedBridge
import Derived.Test.YtmhobbdedmjmnaaGreatDoorCards
import Derived.Test.YtmhobbdedmjmnaaGreatDoorTie
import Derived.SevenTiedAt
import Derived.WalkKit
import Derived.OpenShut
import Derived.ShutString
import Derived.ChangeOld
import Derived.Below
import Derived.Test.YtmhobbdedmjmnaaGreatDoorMStrings8
section
namespace Go.Proofs.YtmhobbdedmjmnaaGreatDoor.Q
open Go.RowKit Go.Proofs.YtmhobbdedmjmnaaGreatDoorW.PrintWords Go.Proofs.YtmhobbdedmjmnaaGreatDoorW.PrintLast Go.Proofs.YtmhobbdedmjmnaaGreatDoorW.PrintMore
attribute [local go_sem] max2_int min2_int max_two min_two max_three min_three max_four min_four
set_option linter.unusedVariables false
set_option linter.unusedSimpArgs false
def tacticianref02_Parse.l0 : Nat → ByteArray → List (List (S61)) → Int → Option ((List (List (S61))) × Bool)
  | 0, _, _, _ => none
  | k + 1, x0, x4, x5 => if x5 < (x0.size : Int) then (if 0 ≤ x5 then (if x5 ≤ (x0.size : Int) then ((tacticianref02_Read.f k (x0.extract (x5 : Int).toNat x0.size)).bind fun bt741 => (if bt741.2 = 0 then (some (([] : List (List (S61))), false)) else (if (wrap64 (x5 + bt741.2)) ≥ (x0.size : Int) then (some (([] : List (List (S61))), false)) else (if 0 ≤ (wrap64 (x5 + bt741.2)) then (if (wrap64 (x5 + bt741.2)) < (x0.size : Int) then (if (bt x0 (wrap64 (x5 + bt741.2))) = 10 then (if (bt741.1.length : Int) > 16 then (some (([] : List (List (S61))), false)) else (if (x4.length : Int) ≥ 20000 then (some (([] : List (List (S61))), false)) else (if x4.length < 5864062014805 then (tacticianref02_Parse.l0 k x0 (x4 ++ [bt741.1]) (wrap64 ((wrap64 (x5 + bt741.2)) + 1))) else (none)))) else (some (([] : List (List (S61))), false))) else (none)) else (none))))) else (none)) else (none)) else (some (x4, true))
def tacticianref02_Parse.f (k : Nat) (a0 : ByteArray) : Option ((List (List (S61))) × Bool) := tacticianref02_Parse.l0 k a0 ([] : List (List (S61))) 0
set_option maxHeartbeats 8000000 in
set_option maxRecDepth 100000 in
theorem tacticianref02_Parse.calls (k : Nat) (a0 : ByteArray) (r1 : List (List (S61))) (r2 : Bool) (w : World) (h : tacticianref02_Parse.f k a0 = some (r1, r2)) :
  Calls Tryz.prog 51 #[.string a0] w fun e w' => ∃ v0_ : Value, e = .returned (.tuple #[v0_, .bool r2]) ∧ Kd.S (Kd.slice 61 k61) 40 w' w.heap.size (fun _ => True) v0_ r1 ∧ Below w.heap.size w w' := by
 have HB := aM (Below.refl w.heap.size w)
 have H : (tacticianref02_Parse.l0 k a0 ([] : List (List (S61))) 0) = some (r1, r2) := h
 clear h
 have H' := aM H
 clear H
 go_enter Tryz.func51, Tryz.ntmps51
 go_wp2
 go_loopg [4, 5] k (fun kq v4 v5 w' => ∃ (x4_1 : List (List (S61))) (x5_1 : Int), v5 = .int .i64 x5_1 ∧ Aside0 (tacticianref02_Parse.l0 kq a0 x4_1 x5_1 = some (r1, r2)) ∧ Aside0 (kq ≤ k) ∧ Aside0 (Kd.S (Kd.slice 61 k61) 40 w' w.heap.size (fun _ => True) v4 x4_1) ∧ Aside0 (Below w.heap.size w w'))
 case atStart => exact ⟨(([] : List (List (S61)))), (0), (by first | rfl | (simp; done) | (simp [*]; done)), H', ⟨Nat.le_refl _⟩, ⟨by first | exact Kd.S_nil _ _ _ _ _ | exact Kd.N_nil _ _ _ _ _ | exact Kd.V_nil _ _ _ _ _ | exact Kd.Q_nil _ _ _ _ _ | exact Kd.R_nil _ _ _ _ _⟩, ⟨by repeat (first | (with_reducible first | exact HB.out | apply yA | apply yN | apply yD) | exact HB.out)⟩⟩
 case round =>
  clear H'
  obtain ⟨x4_1, x5_1, rfl, HA, HK1, HO_4, HB⟩ := hrel
  cases gk with
  | zero => exact absurd HA.out (by simp [tacticianref02_Parse.l0])
  | succ k1 =>
   have H := HA.out
   clear HA
   simp only [tacticianref02_Parse.l0] at H
   by_cases c2 : x5_1 < (a0.size : Int)
   ·rw [if_pos c2] at H
    have c2b0 : decide (x5_1 < (a0.size : Int)) = true := decide_eq_true c2
    clear c2
    by_cases c3 : 0 ≤ x5_1
    ·rw [if_pos c3] at H
     have c3b0 := eq_true c3
     have c3b1 : decide (0 ≤ x5_1) = true := decide_eq_true c3
     clear c3
     by_cases c4 : x5_1 ≤ (a0.size : Int)
     ·rw [if_pos c4] at H
      have c4b0 := eq_true c4
      have c4b1 : decide (x5_1 ≤ (a0.size : Int)) = true := decide_eq_true c4
      clear c4
      replace H := Option.bind_eq_some_iff.mp H
      obtain ⟨⟨t741, t742⟩, A50, H⟩ := H
      replace H : (if t742 = 0 then (some (([] : List (List (S61))), false)) else (if (wrap64 (x5_1 + t742)) ≥ (a0.size : Int) then (some (([] : List (List (S61))), false)) else (if 0 ≤ (wrap64 (x5_1 + t742)) then (if (wrap64 (x5_1 + t742)) < (a0.size : Int) then (if (bt a0 (wrap64 (x5_1 + t742))) = 10 then (if (t741.length : Int) > 16 then (some (([] : List (List (S61))), false)) else (if (x4_1.length : Int) ≥ 20000 then (some (([] : List (List (S61))), false)) else (if x4_1.length < 5864062014805 then (tacticianref02_Parse.l0 k1 a0 (x4_1 ++ [t741]) (wrap64 ((wrap64 (x5_1 + t742)) + 1))) else (none)))) else (some (([] : List (List (S61))), false))) else (none)) else (none)))) = some (r1, r2) := H
      have A5 := aM A50
      clear A50
      by_cases c6 : t742 = 0
      ·rw [if_pos c6] at H
       have c6b0 : (t742 == 0) = true := beq_iff_eq.mpr c6
       have c6b1 : (t742 != 0) = false := bne_eq_false_iff_eq.mpr c6
       clear c6
       simp only [Option.some.injEq, Prod.mk.injEq] at H
       obtain ⟨rfl, rfl⟩ := H
       go_wp2_with (first | ((with_reducible refine gate_callee (f := 85) rfl ?_); refine goesL_ (some 16) rfl rfl Tryz.func85 (by kernel_rfl) rfl #[.string (a0.extract (x5_1 : Int).toNat a0.size)] rfl (by (try simp only [List.map_toArray, List.map_cons, List.map_nil]); first | done | rfl | (simp only [List.length_drop, List.length_take]; rfl)) ?_; (with_reducible refine (tacticianref02_Read.calls k1 (a0.extract (x5_1 : Int).toNat a0.size) t741 t742 _ A5.out).mono ?_); rintro e w7 ⟨v743, rfl, ho0, hb⟩; refine ⟨_, rfl, ?_⟩; have n0_ := aM (Kd.S_elder' (by (with_reducible repeat (first | apply Kd.S_alloc | apply Kd.S_drewN | apply Kd.S_drew)); exact HO_4.out) (Kd.R_base ho0) hb); have n1_ := aM (Kd.R_lower ho0 (below_size (by repeat (first | (with_reducible first | exact HB.out | apply yA | apply yN | apply yD) | exact HB.out)))); have n2_ := aM (below_step (by repeat (first | (with_reducible first | exact HB.out | apply yA | apply yN | apply yD) | exact HB.out)) hb); clear HO_4; clear HB; have HO_4 := n0_; have HO744 := n1_; have HB := n2_; clear n0_ n1_ n2_; (try clear hb); (try clear hk); (try clear ho0)))
       go_ret2
       exact ⟨_, by first | rfl | (simp [errW_none, errW_some] <;> rfl) | (simp [*, errW_none, errW_some] <;> rfl), by first | exact Kd.S_nil _ _ _ _ _ | exact Kd.N_nil _ _ _ _ _ | exact Kd.V_nil _ _ _ _ _ | exact Kd.Q_nil _ _ _ _ _ | exact Kd.R_nil _ _ _ _ _, by repeat (first | (with_reducible first | exact HB.out | apply yA | apply yN | apply yD) | exact HB.out)⟩
      ·rw [if_neg c6] at H
       have c6b0 : (t742 == 0) = false := beq_eq_false_iff_ne.mpr c6
       have c6b1 : (t742 != 0) = true := bne_iff_ne.mpr c6
       by_cases c8 : (wrap64 (x5_1 + t742)) ≥ (a0.size : Int)
       ·rw [if_pos c8] at H
        have c8b0 : decide ((a0.size : Int) ≤ (wrap64 (x5_1 + t742))) = true := decide_eq_true c8
        clear c8
        simp only [Option.some.injEq, Prod.mk.injEq] at H
        obtain ⟨rfl, rfl⟩ := H
        go_wp2_with (first | ((with_reducible refine gate_callee (f := 85) rfl ?_); refine goesL_ (some 16) rfl rfl Tryz.func85 (by kernel_rfl) rfl #[.string (a0.extract (x5_1 : Int).toNat a0.size)] rfl (by (try simp only [List.map_toArray, List.map_cons, List.map_nil]); first | done | rfl | (simp only [List.length_drop, List.length_take]; rfl)) ?_; (with_reducible refine (tacticianref02_Read.calls k1 (a0.extract (x5_1 : Int).toNat a0.size) t741 t742 _ A5.out).mono ?_); rintro e w9 ⟨v743, rfl, ho0, hb⟩; refine ⟨_, rfl, ?_⟩; have n0_ := aM (Kd.S_elder' (by (with_reducible repeat (first | apply Kd.S_alloc | apply Kd.S_drewN | apply Kd.S_drew)); exact HO_4.out) (Kd.R_base ho0) hb); have n1_ := aM (Kd.R_lower ho0 (below_size (by repeat (first | (with_reducible first | exact HB.out | apply yA | apply yN | apply yD) | exact HB.out)))); have n2_ := aM (below_step (by repeat (first | (with_reducible first | exact HB.out | apply yA | apply yN | apply yD) | exact HB.out)) hb); clear HO_4; clear HB; have HO_4 := n0_; have HO744 := n1_; have HB := n2_; clear n0_ n1_ n2_; (try clear hb); (try clear hk); (try clear ho0)))
        go_ret2
        exact ⟨_, by first | rfl | (simp [errW_none, errW_some] <;> rfl) | (simp [*, errW_none, errW_some] <;> rfl), by first | exact Kd.S_nil _ _ _ _ _ | exact Kd.N_nil _ _ _ _ _ | exact Kd.V_nil _ _ _ _ _ | exact Kd.Q_nil _ _ _ _ _ | exact Kd.R_nil _ _ _ _ _, by repeat (first | (with_reducible first | exact HB.out | apply yA | apply yN | apply yD) | exact HB.out)⟩
       ·rw [if_neg c8] at H
        have c8b0 : decide ((a0.size : Int) ≤ (wrap64 (x5_1 + t742))) = false := decide_eq_false c8
        clear c8
        obtain ⟨ji10, hji10⟩ : ∃ j_ : Int, (wrap64 (x5_1 + t742)) = j_ := ⟨_, rfl⟩
        replace H : (if 0 ≤ (ji10) then (if (ji10) < (a0.size : Int) then (if (bt a0 (ji10)) = 10 then (if (t741.length : Int) > 16 then (some (([] : List (List (S61))), false)) else (if (x4_1.length : Int) ≥ 20000 then (some (([] : List (List (S61))), false)) else (if x4_1.length < 5864062014805 then (tacticianref02_Parse.l0 k1 a0 (x4_1 ++ [t741]) (wrap64 ((ji10) + 1))) else (none)))) else (some (([] : List (List (S61))), false))) else (none)) else (none)) = some (r1, r2) := by first | (rw [hji10] at H; exact H) | (simp only [hji10] at H ⊢; exact H)
        (try rw [hji10] at c8b0)
        (try rw [hji10] at A5)
        have hji10w : (IntKind.i64.wrap (x5_1 + t742)) = ji10 := (i64_w _).trans hji10
        by_cases c11 : 0 ≤ (ji10)
        ·rw [if_pos c11] at H
         have c11b0 : decide (0 ≤ (ji10)) = true := decide_eq_true c11
         clear c11
         by_cases c12 : (ji10) < (a0.size : Int)
         ·rw [if_pos c12] at H
          have c12b0 : decide ((ji10) < (a0.size : Int)) = true := decide_eq_true c12
          clear c12
          by_cases c14 : (bt a0 (ji10)) = 10
          ·rw [if_pos c14] at H
           have c14b0 : ((bt a0 (ji10)) == 10) = true := beq_iff_eq.mpr c14
           have c14b1 : ((bt a0 (ji10)) != 10) = false := bne_eq_false_iff_eq.mpr c14
           clear c14
           by_cases c15 : (t741.length : Int) > 16
           ·rw [if_pos c15] at H
            have c15b0 : decide (16 < (t741.length : Int)) = true := decide_eq_true c15
            have c15b1 : decide (16 < t741.length) = true := decide_eq_true (by omega)
            clear c15
            simp only [Option.some.injEq, Prod.mk.injEq] at H
            obtain ⟨rfl, rfl⟩ := H
            go_wp2_with (first | ((with_reducible refine gate_callee (f := 85) rfl ?_); refine goesL_ (some 16) rfl rfl Tryz.func85 (by kernel_rfl) rfl #[.string (a0.extract (x5_1 : Int).toNat a0.size)] rfl (by (try simp only [List.map_toArray, List.map_cons, List.map_nil]); first | done | rfl | (simp only [List.length_drop, List.length_take]; rfl)) ?_; (with_reducible refine (tacticianref02_Read.calls k1 (a0.extract (x5_1 : Int).toNat a0.size) t741 t742 _ A5.out).mono ?_); rintro e w16 ⟨v743, rfl, ho0, hb⟩; refine ⟨_, rfl, ?_⟩; have n0_ := aM (Kd.S_elder' (by (with_reducible repeat (first | apply Kd.S_alloc | apply Kd.S_drewN | apply Kd.S_drew)); exact HO_4.out) (Kd.R_base ho0) hb); have n1_ := aM (Kd.R_lower ho0 (below_size (by repeat (first | (with_reducible first | exact HB.out | apply yA | apply yN | apply yD) | exact HB.out)))); have n2_ := aM (below_step (by repeat (first | (with_reducible first | exact HB.out | apply yA | apply yN | apply yD) | exact HB.out)) hb); clear HO_4; clear HB; have HO_4 := n0_; have HO744 := n1_; have HB := n2_; clear n0_ n1_ n2_; (try clear hb); (try clear hk); (try clear ho0); have p13 : 0 ≤ ((ji10) : Int) := of_decide_eq_true (by first | (with_reducible assumption) | assumption); have q13 : (ji10) < (a0.size : Int) := of_decide_eq_true (by first | (with_reducible assumption) | assumption); have hx13 := bt_at a0 (ji10); replace p13 := eq_true p13; replace q13 := eq_true q13; obtain ⟨Ao17, co17, eo17⟩ := Kd.R_slice HO744.out; subst eo17))
            go_ret2
            exact ⟨_, by first | rfl | (simp [errW_none, errW_some] <;> rfl) | (simp only [← hji10]; first | rfl | (simp [errW_none, errW_some] <;> rfl)) | (simp [*, errW_none, errW_some] <;> rfl), by first | exact Kd.S_nil _ _ _ _ _ | exact Kd.N_nil _ _ _ _ _ | exact Kd.V_nil _ _ _ _ _ | exact Kd.Q_nil _ _ _ _ _ | exact Kd.R_nil _ _ _ _ _, by repeat (first | (with_reducible first | exact HB.out | apply yA | apply yN | apply yD) | exact HB.out)⟩
           ·rw [if_neg c15] at H
            have c15b0 : decide (16 < (t741.length : Int)) = false := decide_eq_false c15
            have c15b1 : decide (16 < t741.length) = false := decide_eq_false (by omega)
            clear c15
            by_cases c18 : (x4_1.length : Int) ≥ 20000
            ·rw [if_pos c18] at H
             have c18b0 : decide (20000 ≤ (x4_1.length : Int)) = true := decide_eq_true c18
             have c18b1 : decide (20000 ≤ x4_1.length) = true := decide_eq_true (by omega)
             clear c18
             simp only [Option.some.injEq, Prod.mk.injEq] at H
             obtain ⟨rfl, rfl⟩ := H
             go_wp2_with (first | ((with_reducible refine gate_callee (f := 85) rfl ?_); refine goesL_ (some 16) rfl rfl Tryz.func85 (by kernel_rfl) rfl #[.string (a0.extract (x5_1 : Int).toNat a0.size)] rfl (by (try simp only [List.map_toArray, List.map_cons, List.map_nil]); first | done | rfl | (simp only [List.length_drop, List.length_take]; rfl)) ?_; (with_reducible refine (tacticianref02_Read.calls k1 (a0.extract (x5_1 : Int).toNat a0.size) t741 t742 _ A5.out).mono ?_); rintro e w19 ⟨v743, rfl, ho0, hb⟩; refine ⟨_, rfl, ?_⟩; have n0_ := aM (Kd.S_elder' (by (with_reducible repeat (first | apply Kd.S_alloc | apply Kd.S_drewN | apply Kd.S_drew)); exact HO_4.out) (Kd.R_base ho0) hb); have n1_ := aM (Kd.R_lower ho0 (below_size (by repeat (first | (with_reducible first | exact HB.out | apply yA | apply yN | apply yD) | exact HB.out)))); have n2_ := aM (below_step (by repeat (first | (with_reducible first | exact HB.out | apply yA | apply yN | apply yD) | exact HB.out)) hb); clear HO_4; clear HB; have HO_4 := n0_; have HO744 := n1_; have HB := n2_; clear n0_ n1_ n2_; (try clear hb); (try clear hk); (try clear ho0); have p13 : 0 ≤ ((ji10) : Int) := of_decide_eq_true (by first | (with_reducible assumption) | assumption); have q13 : (ji10) < (a0.size : Int) := of_decide_eq_true (by first | (with_reducible assumption) | assumption); have hx13 := bt_at a0 (ji10); replace p13 := eq_true p13; replace q13 := eq_true q13; obtain ⟨Ao20, co20, eo20⟩ := Kd.R_slice HO744.out; subst eo20; obtain ⟨Ao21, co21, eo21⟩ := Kd.S_slice HO_4.out; subst eo21))
             go_ret2
             exact ⟨_, by first | rfl | (simp [errW_none, errW_some] <;> rfl) | (simp only [← hji10]; first | rfl | (simp [errW_none, errW_some] <;> rfl)) | (simp [*, errW_none, errW_some] <;> rfl), by first | exact Kd.S_nil _ _ _ _ _ | exact Kd.N_nil _ _ _ _ _ | exact Kd.V_nil _ _ _ _ _ | exact Kd.Q_nil _ _ _ _ _ | exact Kd.R_nil _ _ _ _ _, by repeat (first | (with_reducible first | exact HB.out | apply yA | apply yN | apply yD) | exact HB.out)⟩
            ·rw [if_neg c18] at H
             have c18b0 : decide (20000 ≤ (x4_1.length : Int)) = false := decide_eq_false c18
             have c18b1 : decide (20000 ≤ x4_1.length) = false := decide_eq_false (by omega)
             clear c18
             by_cases c22 : x4_1.length < 5864062014805
             ·rw [if_pos c22] at H
              have LMc22 := aM c22
              clear c22
              obtain ⟨y745, hy745⟩ : ∃ y_ : List (List (S61)), y_ = (x4_1 ++ [t741]) := ⟨_, rfl⟩
              replace H : (tacticianref02_Parse.l0 k1 a0 y745 (wrap64 ((ji10) + 1))) = some (r1, r2) := by first | (rw [hy745]; with_reducible exact H) | (have H2_ := (Option.bind_some _ _).symm.trans H; rw [hy745]; with_reducible exact H2_) | (have H2_ := (Option.bind_some _ _).symm.trans H; with_reducible exact H2_) | with_reducible exact H | (rw [hy745]; exact H) | exact H
              have Ny745 := aM hy745
              clear hy745
              have H' := aM H
              clear H
              go_wp2_with (first | ((with_reducible refine gate_callee (f := 85) rfl ?_); refine goesL_ (some 16) rfl rfl Tryz.func85 (by kernel_rfl) rfl #[.string (a0.extract (x5_1 : Int).toNat a0.size)] rfl (by (try simp only [List.map_toArray, List.map_cons, List.map_nil]); first | done | rfl | (simp only [List.length_drop, List.length_take]; rfl)) ?_; (with_reducible refine (tacticianref02_Read.calls k1 (a0.extract (x5_1 : Int).toNat a0.size) t741 t742 _ A5.out).mono ?_); rintro e w23 ⟨v743, rfl, ho0, hb⟩; refine ⟨_, rfl, ?_⟩; have n0_ := aM (Kd.S_elder' (by (with_reducible repeat (first | apply Kd.S_alloc | apply Kd.S_drewN | apply Kd.S_drew)); exact HO_4.out) (Kd.R_base ho0) hb); have n1_ := aM (Kd.R_lower ho0 (below_size (by repeat (first | (with_reducible first | exact HB.out | apply yA | apply yN | apply yD) | exact HB.out)))); have n2_ := aM (below_step (by repeat (first | (with_reducible first | exact HB.out | apply yA | apply yN | apply yD) | exact HB.out)) hb); clear HO_4; clear HB; have HO_4 := n0_; have HO744 := n1_; have HB := n2_; clear n0_ n1_ n2_; (try clear hb); (try clear hk); (try clear ho0); have p13 : 0 ≤ ((ji10) : Int) := of_decide_eq_true (by first | (with_reducible assumption) | assumption); have q13 : (ji10) < (a0.size : Int) := of_decide_eq_true (by first | (with_reducible assumption) | assumption); have hx13 := bt_at a0 (ji10); replace p13 := eq_true p13; replace q13 := eq_true q13; obtain ⟨Ao24, co24, eo24⟩ := Kd.R_slice HO744.out; subst eo24; obtain ⟨Ao25, co25, eo25⟩ := Kd.S_slice HO_4.out; subst eo25) | ((with_reducible refine gate_builtin (b := .append) (xs := #[.tmp 47, .tmp 49]) rfl ?_); (try (refine gate_guard (by rfl) ?_; dsimp only)); at_builtin; refine Kd.S_append (Kd.slice 61 k61) (w0 := w) w.heap.size rfl (.tmp 47) (.tmp 49) 22 40 (.slice none 0 0) 24 rfl Tryz.underlying22 info40 rfl (by decide) (by omega) (.slice Ao25 x4_1.length co25) x4_1 t741 [.slice Ao24 t741.length co24] (fun _ => True) (fun k_ => some k_ = (.slice Ao24 t741.length co24 : Value).ownBlock) rfl rfl ?aP (fun k_ hk_ => ((Kd.R_mono (ok' := fun k_ => ((fun _ => True)) k_ ∧ some k_ ≠ (.slice Ao25 x4_1.length co25 : Value).ownBlock) (Kd.R_apart' (HO744.out) (Kd.S_typed HO_4.out) (by decide)) (fun k_ hk => ⟨trivial, hk.2⟩))).1 k_ hk_.symm) ?aF ?aO ?aB ?aS ?aL ?_; (case aP => exact Kd.M_row (Kd.R_mono (Kd.R_tight rfl (Kd.R_mono (ok' := fun k_ => ((fun _ => True)) k_ ∧ some k_ ≠ (.slice Ao25 x4_1.length co25 : Value).ownBlock) (Kd.R_apart' (HO744.out) (Kd.S_typed HO_4.out) (by decide)) (fun k_ hk => ⟨trivial, hk.2⟩))) (fun _ h_ => h_))); (case aB => exact (by repeat (first | (with_reducible first | exact HB.out | apply yA | apply yN | apply yD) | exact HB.out))); (case aF => exact (fun _ _ => trivial)); (case aO => exact (by (with_reducible repeat (first | apply Kd.S_alloc | apply Kd.S_drewN | apply Kd.S_drew)); exact Kd.S_mono HO_4.out (fun k_ hk => ⟨trivial, fun e_ => hk.2 e_⟩))); (case aS => exact (below_size (by repeat (first | (with_reducible first | exact HB.out | apply yA | apply yN | apply yD) | exact HB.out)))); (case aL => have := LMc22.out; omega); intro v746 w26 ho hb hg hat; rw [← Ny745.out] at ho; have n0_ := aM (hb); have n1_ := aM (ho); clear HB; clear HO_4; clear HO744; have HB := n0_; have HO747 := n1_; clear n0_ n1_; clear ho hb hg hat))
              go_roundg k1
              case measure => have := HK1.out; omega
              case rel => exact ⟨(y745), (wrap64 ((ji10) + 1)), (by first | rfl | (simp; done) | (simp only [← hji10] <;> (first | rfl | simp)) | (simp [*]; done)), (by first | exact H' | (rw [hji10]; exact H') | (simp only [hji10]; exact H')), ⟨by have := HK1.out; omega⟩, ⟨by (with_reducible repeat (first | apply Kd.S_alloc | apply Kd.S_drewN | apply Kd.S_drew)); exact HO747.out⟩, ⟨by repeat (first | (with_reducible first | exact HB.out | apply yA | apply yN | apply yD) | exact HB.out)⟩⟩
             ·rw [if_neg c22] at H
              exact absurd H (by simp)
          ·rw [if_neg c14] at H
           have c14b0 : ((bt a0 (ji10)) == 10) = false := beq_eq_false_iff_ne.mpr c14
           have c14b1 : ((bt a0 (ji10)) != 10) = true := bne_iff_ne.mpr c14
           simp only [Option.some.injEq, Prod.mk.injEq] at H
           obtain ⟨rfl, rfl⟩ := H
           go_wp2_with (first | ((with_reducible refine gate_callee (f := 85) rfl ?_); refine goesL_ (some 16) rfl rfl Tryz.func85 (by kernel_rfl) rfl #[.string (a0.extract (x5_1 : Int).toNat a0.size)] rfl (by (try simp only [List.map_toArray, List.map_cons, List.map_nil]); first | done | rfl | (simp only [List.length_drop, List.length_take]; rfl)) ?_; (with_reducible refine (tacticianref02_Read.calls k1 (a0.extract (x5_1 : Int).toNat a0.size) t741 t742 _ A5.out).mono ?_); rintro e w27 ⟨v743, rfl, ho0, hb⟩; refine ⟨_, rfl, ?_⟩; have n0_ := aM (Kd.S_elder' (by (with_reducible repeat (first | apply Kd.S_alloc | apply Kd.S_drewN | apply Kd.S_drew)); exact HO_4.out) (Kd.R_base ho0) hb); have n1_ := aM (Kd.R_lower ho0 (below_size (by repeat (first | (with_reducible first | exact HB.out | apply yA | apply yN | apply yD) | exact HB.out)))); have n2_ := aM (below_step (by repeat (first | (with_reducible first | exact HB.out | apply yA | apply yN | apply yD) | exact HB.out)) hb); clear HO_4; clear HB; have HO_4 := n0_; have HO744 := n1_; have HB := n2_; clear n0_ n1_ n2_; (try clear hb); (try clear hk); (try clear ho0); have p13 : 0 ≤ ((ji10) : Int) := of_decide_eq_true (by first | (with_reducible assumption) | assumption); have q13 : (ji10) < (a0.size : Int) := of_decide_eq_true (by first | (with_reducible assumption) | assumption); have hx13 := bt_at a0 (ji10); replace p13 := eq_true p13; replace q13 := eq_true q13))
           go_ret2
           exact ⟨_, by first | rfl | (simp [errW_none, errW_some] <;> rfl) | (simp only [← hji10]; first | rfl | (simp [errW_none, errW_some] <;> rfl)) | (simp [*, errW_none, errW_some] <;> rfl), by first | exact Kd.S_nil _ _ _ _ _ | exact Kd.N_nil _ _ _ _ _ | exact Kd.V_nil _ _ _ _ _ | exact Kd.Q_nil _ _ _ _ _ | exact Kd.R_nil _ _ _ _ _, by repeat (first | (with_reducible first | exact HB.out | apply yA | apply yN | apply yD) | exact HB.out)⟩
         ·rw [if_neg c12] at H
          exact absurd H (by simp)
        ·rw [if_neg c11] at H
         exact absurd H (by simp)
     ·rw [if_neg c4] at H
      exact absurd H (by simp)
    ·rw [if_neg c3] at H
     exact absurd H (by simp)
   ·rw [if_neg c2] at H
    have c2b0 : decide (x5_1 < (a0.size : Int)) = false := decide_eq_false c2
    clear c2
    simp only [Option.some.injEq, Prod.mk.injEq] at H
    obtain ⟨rfl, rfl⟩ := H
    go_wp2
    go_ret2
    exact ⟨_, by first | rfl | (simp [errW_none, errW_some] <;> rfl) | (simp [*, errW_none, errW_some] <;> rfl), by (with_reducible repeat (first | apply Kd.S_alloc | apply Kd.S_drewN | apply Kd.S_drew)); exact HO_4.out, by repeat (first | (with_reducible first | exact HB.out | apply yA | apply yN | apply yD) | exact HB.out)⟩
end Go.Proofs.YtmhobbdedmjmnaaGreatDoor.Q
end
section
namespace Go.Proofs.YtmhobbdedmjmnaaGreatDoor
open Go.RowKit Go.Proofs.YtmhobbdedmjmnaaGreatDoor.Q Go.Proofs.YtmhobbdedmjmnaaGreatDoorW.PrintWords Go.Proofs.YtmhobbdedmjmnaaGreatDoorW.PrintLast Go.Proofs.YtmhobbdedmjmnaaGreatDoorW.PrintMore
theorem readL_empty (s : ByteArray) (d a : Nat) (acc : List V) (h : s.size ≤ a) : readL s d a acc = ([], 0) := by
  cases d with
  | zero => rfl
  | succ d =>
    have h3 := valR_le (s.extract a s.size)
    rw [ByteArray.size_extract] at h3
    unfold readL
    rw [if_pos (by omega)]
theorem rowR_no (s : ByteArray) (h : ¬ (2 ≤ s.size ∧ bt s 0 = 40)) : rowR s = ([], 0) := by unfold rowR; exact if_neg h
theorem rowR_two (s : ByteArray) (h : 2 ≤ s.size) (h0 : bt s 0 = 40) (h1 : bt s 1 = 41) : rowR s = ([], 2) := by unfold rowR; rw [if_pos ⟨h, h0⟩]; exact if_pos h1
theorem rowR_in (s : ByteArray) (h : 2 ≤ s.size) (h0 : bt s 0 = 40) (h1 : ¬ bt s 1 = 41) : rowR s = readL s (s.size + 1) 1 [] := by unfold rowR; rw [if_pos ⟨h, h0⟩]; exact if_neg h1
theorem rowsRow (s : ByteArray) (hs : s.size ≤ 20000) (k : Nat) (hk : 65000 < k) : rows_Row.f k s = some (rowR s) := by
  unfold rows_Row.f
  rw [hasPrefix1, Option.bind_some]
  by_cases h : 0 < s.size ∧ bt s 0 = 40
  · rw [if_pos (by rw [decide_eq_true h.1, Bool.true_and]; exact decide_eq_true h.2), if_pos (by omega), hasPrefix1, Option.bind_some]
    by_cases h2 : 2 ≤ s.size
    · have e1 : bt (s.extract 1 s.size) 0 = bt s 1 := bt_extract s 1 s.size 0 (by omega) (Nat.le_refl _)
      have e2 : 0 < (s.extract 1 s.size).size := by rw [ByteArray.size_extract]; omega
      rw [e1, decide_eq_true e2, Bool.true_and]
      by_cases h3 : bt s 1 = 41
      · rw [rowR_two s h2 h.2 h3]
        exact if_pos (decide_eq_true h3)
      · rw [rowR_in s h2 h.2 h3, show (((41 : UInt8).toNat : Nat) : Int) = 41 from rfl, if_neg (fun q => h3 (of_decide_eq_true q))]
        exact rows_l0 s hs (s.size + 1) 1 k [] (by omega) (by omega) (by simp) (by omega)
    · have e2 : ¬ 0 < (s.extract 1 s.size).size := by rw [ByteArray.size_extract]; omega
      rw [rowR_no s (fun q => h2 q.1), decide_eq_false e2, Bool.false_and, if_neg (by decide)]
      have h5 := rows_l0 s hs (s.size + 1) 1 k [] (by omega) (by omega) (by simp) (by omega)
      rw [readL_empty s _ _ _ (by omega)] at h5
      exact h5
  · rw [rowR_no s (fun q => h ⟨by omega, q.2⟩)]
    exact if_neg (fun e => h (by rw [Bool.and_eq_true, decide_eq_true_eq, decide_eq_true_eq] at e; exact e))
theorem refRead (s : ByteArray) (hs : s.size ≤ 5000) (k : Nat) (hk : 40000 < k) : tacticianref02_Read.f k s = some (rowR s) := by
  obtain ⟨k, rfl⟩ : ∃ m, k = m + 1 := ⟨k - 1, by omega⟩
  unfold tacticianref02_Read.f
  by_cases h2 : 2 ≤ s.size
  · rw [if_neg (by omega), if_pos (by omega), tacticianref02_Read.j0]
    by_cases h : bt s 0 = 40
    · rw [if_neg (by rw [h]; decide), if_pos (by omega)]
      by_cases h3 : bt s 1 = 41
      · rw [rowR_two s h2 h h3]
        exact if_pos h3
      · rw [rowR_in s h2 h h3, if_neg h3]
        exact refRead_l0 s hs (s.size + 1) 1 k [] (by omega) (by omega) (by simp) (by omega)
    · rw [rowR_no s (fun q => h q.2)]
      exact if_pos (by simpa using h)
  · rw [rowR_no s (fun q => h2 q.1), if_pos (by omega), tacticianref02_Read.j0]
    exact if_pos rfl
theorem rowR_le (s : ByteArray) : 0 ≤ (rowR s).2 ∧ (rowR s).2 ≤ (s.size : Int) := by
  by_cases h : (rowR s).2 = 0
  · omega
  · obtain ⟨l, m, e1, _, e3, e4, _⟩ := rowR_sound s h
    rw [e1]
    dsimp only
    omega
def endP : Option (List (List V)) → List (List V) × Int
  | some L => if smallE [L] = 0 then (L, 0) else ([], 20)
  | none => ([], 20)
def endF : Option (List (List V)) → List (List V) × Bool
  | some L => if largeR L = false then (L, true) else ([], false)
  | none => ([], false)
theorem rowsParse_l0 : ∀ (d : Nat) (s : ByteArray) (k : Nat) (out : List (List V)), s.size < d → s.size ≤ 20000 → out.length + s.size ≤ 100000 → 65001 + d < k →
    rows_Parse.l0 k s out = some (endP (readP d s out))
  | 0, _, _, _, h, _, _, _ => by omega
  | d + 1, s, k, out, hd, hs, ho, hk => by
    obtain ⟨k, rfl⟩ : ∃ m, k = m + 1 := ⟨k - 1, by omega⟩
    unfold readP
    rw [rows_Parse.l0]
    by_cases h0 : s.size = 0
    · rw [if_pos h0, if_pos h0, if_pos (by omega)]
      show _ = some (if smallE [out] = 0 then (out, 0) else ([], 20))
      split <;> rfl
    · rw [if_neg h0, if_neg h0, rowsRow s hs k (by omega), Option.bind_some]
      have hr := rowR_le s
      generalize rowR s = p at hr ⊢
      by_cases h1 : p.2 = 0
      · rw [if_pos h1, if_pos h1]; rfl
      · obtain ⟨n, hn⟩ : ∃ n : Nat, p.2 = (n : Int) := ⟨p.2.toNat, by omega⟩
        rw [if_neg h1, if_neg h1, hn, Int.toNat_natCast]
        rw [hn] at hr h1
        have hn0 : 0 < n := by omega
        have hns : n ≤ s.size := by omega
        clear hr h1
        rw [if_pos ⟨by omega, by omega⟩, hasPrefix1, Option.bind_some]
        obtain ⟨m, hm⟩ : ∃ m, s.size = n + m := ⟨s.size - n, by omega⟩
        have hz0 : (s.extract n s.size).size = m := by rw [ByteArray.size_extract, hm]; omega
        by_cases h2 : n < s.size
        · have e1 : bt (s.extract n s.size) 0 = bt s (n : Int) := bt_extract s n s.size 0 (by omega) (Nat.le_refl _)
          have e2 : 0 < (s.extract n s.size).size := by omega
          rw [e1, decide_eq_true e2, Bool.true_and, show (((10 : UInt8).toNat : Nat) : Int) = 10 from rfl]
          by_cases h3 : bt s (n : Int) = 10
          · have hc : n < s.size ∧ bt s (n : Int) = 10 := ⟨h2, h3⟩
            rw [if_pos (decide_eq_true h3), if_pos hc, if_pos ⟨by omega, by omega⟩, show ((n : Int) + 1).toNat = n + 1 by omega]
            have hz : (s.extract (n + 1) s.size).size + (n + 1) = s.size := by rw [ByteArray.size_extract]; omega
            exact rowsParse_l0 d _ k _ (by omega) (by omega) (by rw [List.length_append, List.length_singleton]; omega) (by omega)
          · rw [if_neg (fun q => h3 (of_decide_eq_true q)), if_neg (fun q => h3 q.2)]; rfl
        · have e2 : ¬ 0 < (s.extract n s.size).size := by omega
          rw [decide_eq_false e2, Bool.false_and, if_neg (by decide), if_neg (fun q => h2 q.1)]; rfl
theorem rowsParse (s : ByteArray) (hs : s.size ≤ 20000) : rows_Parse.f s = some (endP (readP (s.size + 1) s [])) := by
  unfold rows_Parse.f
  rw [if_neg (by omega)]
  exact rowsParse_l0 (s.size + 1) s _ [] (by omega) hs (by rw [List.length_nil]; omega) (by omega)
theorem refParse_l0 (s : ByteArray) (hs : s.size ≤ 5000) : ∀ (d a k : Nat) (out : List (List V)), a ≤ s.size → s.size < a + d → out.length ≤ a → (out.any fun r => decide (16 < r.length)) = false → 40001 + d < k →
    tacticianref02_Parse.l0 k s out (a : Int) = some (endF (readP d (s.extract a s.size) out))
  | 0, a, _, _, h, h2, _, _, _ => by omega
  | d + 1, a, k, out, ha, hd, ho, hany, hk => by
    obtain ⟨k, rfl⟩ : ∃ m, k = m + 1 := ⟨k - 1, by omega⟩
    have hk' : 40001 + d < k := by omega
    have ho5 : out.length ≤ 5000 := by omega
    clear hk
    obtain ⟨m, hm⟩ : ∃ m, s.size = a + m := ⟨s.size - a, by omega⟩
    have hz : (s.extract a s.size).size = m := by rw [ByteArray.size_extract, hm]; omega
    unfold readP
    rw [tacticianref02_Parse.l0]
    by_cases h0 : m = 0
    · rw [if_neg (show ¬ (a : Int) < (s.size : Int) by omega), if_pos (show (s.extract a s.size).size = 0 by omega)]
      show _ = some (if largeR out = false then (out, true) else ([], false))
      rw [if_pos (show largeR out = false by unfold largeR; rw [decide_eq_false (show ¬ 20000 < out.length by omega), hany]; rfl)]
    · rw [if_pos (show (a : Int) < (s.size : Int) by omega), if_pos (show (0 : Int) ≤ (a : Int) by omega), if_pos (show (a : Int) ≤ (s.size : Int) by omega), Int.toNat_natCast, if_neg (show ¬ (s.extract a s.size).size = 0 by omega), refRead _ (by rw [hz]; omega) k (by omega), Option.bind_some]
      have hr := rowR_le (s.extract a s.size)
      rw [hz] at hr
      have hb : ∀ n, a + n < s.size → bt (s.extract a s.size) (n : Int) = bt s ((a + n : Nat) : Int) := fun n hn => bt_extract s a s.size n hn (Nat.le_refl _)
      have hx : ∀ n, (s.extract a s.size).extract (n + 1) (s.extract a s.size).size = s.extract (a + n + 1) s.size := fun n => by
        apply ba_ext
        rw [data_drop, data_drop, data_drop, List.drop_drop]
        rfl
      have hx2 : ∀ n, (s.extract a s.size).extract (n + 1) m = s.extract (a + n + 1) s.size := fun n => by rw [← hx n, hz]
      clear hx
      rw [hz]
      generalize rowR (s.extract a s.size) = p at hr ⊢
      by_cases h1 : p.2 = 0
      · rw [if_pos h1, if_pos h1]; rfl
      · obtain ⟨n, hn⟩ : ∃ n : Nat, p.2 = (n : Int) := ⟨p.2.toNat, by omega⟩
        rw [if_neg h1, if_neg h1, hn, Int.toNat_natCast]
        rw [hn] at hr h1
        have hn0 : 0 < n := by omega
        have hns : n ≤ m := by omega
        clear hr h1 hn
        have e1 : wrap64 ((a : Int) + (n : Int)) = ((a + n : Nat) : Int) := by rw [wrap_small (by omega) (by omega)]; omega
        have e2 : wrap64 (((a + n : Nat) : Int) + 1) = ((a + n + 1 : Nat) : Int) := by rw [wrap_small (by omega) (by omega)]; omega
        rw [e1, e2]
        by_cases h2 : n < m
        · have h2' : a + n < s.size := by omega
          have i1 : ¬ ((a + n : Nat) : Int) ≥ (s.size : Int) := by omega
          have i2 : (0 : Int) ≤ ((a + n : Nat) : Int) := by omega
          have i3 : ((a + n : Nat) : Int) < (s.size : Int) := by omega
          rw [if_neg i1, if_pos i2, if_pos i3, hb n h2', hx2 n]
          by_cases h3 : bt s ((a + n : Nat) : Int) = 10
          · have hc : n < m ∧ bt s ((a + n : Nat) : Int) = 10 := ⟨h2, h3⟩
            rw [if_pos h3, if_pos hc]
            by_cases h4 : 16 < p.1.length
            · have i4 : (p.1.length : Int) > 16 := by omega
              rw [if_pos i4]
              cases e : readP d (s.extract (a + n + 1) s.size) (out ++ [p.1]) with
              | none => rfl
              | some L =>
                obtain ⟨l, rfl, _, _⟩ := readP_sound _ _ _ _ e
                show _ = some (if largeR (out ++ [p.1] ++ l) = false then (out ++ [p.1] ++ l, true) else ([], false))
                have hlg : largeR (out ++ [p.1] ++ l) = true := by
                  unfold largeR
                  rw [List.any_append, List.any_append]
                  simp [h4]
                rw [hlg, if_neg (by decide)]
            · have i4 : ¬ (p.1.length : Int) > 16 := by omega
              have i5 : ¬ (out.length : Int) ≥ 20000 := by omega
              have i6 : out.length < 5864062014805 := by clear e1 e2 hb hx2; omega
              have hl1 : (out ++ [p.1]).length ≤ a + n + 1 := by rw [List.length_append, List.length_singleton]; omega
              rw [if_neg i4, if_neg i5, if_pos i6]
              exact refParse_l0 s hs d (a + n + 1) k _ (by omega) (by omega) hl1 (by rw [List.any_append, hany]; simp; omega) hk'
          · have hc : ¬ (n < m ∧ bt s ((a + n : Nat) : Int) = 10) := fun q => h3 q.2
            rw [if_neg h3, if_neg hc]; rfl
        · have i1 : ((a + n : Nat) : Int) ≥ (s.size : Int) := by omega
          have hc : ¬ (n < m ∧ bt (s.extract a s.size) (n : Int) = 10) := fun q => h2 q.1
          rw [if_pos i1, if_neg hc]; rfl
theorem refParse (s : ByteArray) (hs : s.size ≤ 5000) (k : Nat) (hk : 46000 < k) : tacticianref02_Parse.f k s = some (endF (readP (s.size + 1) s [])) := by
  unfold tacticianref02_Parse.f
  have h := refParse_l0 s hs (s.size + 1) 0 k [] (by omega) (by omega) (by simp) rfl (by omega)
  rw [ByteArray.extract_zero_size] at h
  exact h
theorem smallE_read {L : List (List V)} (hok : ∀ r ∈ L, ∀ v ∈ r, OkV v) : smallE [L] = if largeR L = true then 2 else 0 := by
  have hw : wrongR L = false := by
    unfold wrongR
    rw [List.any_eq_false]
    intro r hr
    rw [Bool.not_eq_true, List.any_eq_false]
    intro v hv
    have h2 := hok r hr v hv
    unfold OkV okV at h2
    rw [Bool.and_eq_true] at h2
    unfold isV
    rw [h2.1]
    decide
  unfold smallE
  simp only [List.any_cons, List.any_nil, Bool.or_false, hw]
  rfl
theorem rowsOk_read {L : List (List V)} (hok : ∀ r ∈ L, ∀ v ∈ r, OkV v) (hl : largeR L = false) : RowsOk 100000 L ∧ okRR L = true := by
  unfold largeR at hl
  rw [Bool.or_eq_false_iff, List.any_eq_false] at hl
  have h1 := of_decide_eq_false hl.1
  have h2 : ∀ r ∈ L, r.length ≤ 16 := fun r hr => by
    have := hl.2 r hr
    rw [decide_eq_true_eq] at this
    omega
  refine ⟨⟨by omega, fun r hr => ⟨by have := h2 r hr; omega, fun v hv => ?_⟩⟩, okRR_mk (by omega) fun r hr => okRow_mk (by have := h2 r hr; omega) (hok r hr)⟩
  have h3 := hok r hr v hv
  refine ⟨?_, ?_⟩
  · rcases okV_cases h3 with ⟨_, _, e⟩ | ⟨_, _, e⟩ | ⟨_, _, e⟩ | ⟨_, _, e, _⟩
    · rw [e]; decide
    · rw [e]; decide
    · rw [e]; decide
    · omega
  · unfold OkV okV at h3
    rw [Bool.and_eq_true] at h3
    exact h3.2
theorem joinTail_cons (sep x : List UInt8) (l : List (List UInt8)) : Lib.joinTail sep (x :: l) = sep ++ x ++ Lib.joinTail sep l := by simp [Lib.joinTail]
theorem refRow_loop (l : List V) (hl : l.length ≤ 1000) (hok : ∀ v ∈ l, OkV v) : ∀ (d i k : Nat) (acc : ByteArray), i + d = l.length → 0 < i → acc.size ≤ 404 * i + 10 → d < k →
    tacticianref02_Row.l0 k l acc (i : Int) = some (ofL (acc.data.toList ++ (Lib.joinTail [44, 32] ((l.drop i).map wrL) ++ [41])))
  | 0, i, k, acc, hi, h0, ha, hk => by
    obtain ⟨k, rfl⟩ : ∃ m, k = m + 1 := ⟨k - 1, by omega⟩
    rw [tacticianref02_Row.l0, if_neg (by omega), if_pos (by omega), List.drop_of_length_le (by omega)]
    apply congrArg some
    apply ba_ext
    rw [append_data, ofL_data]
    rfl
  | d + 1, i, k, acc, hi, h0, ha, hk => by
    obtain ⟨k, rfl⟩ : ∃ m, k = m + 1 := ⟨k - 1, by omega⟩
    have hlt : i < l.length := by omega
    have hv := hok _ (List.getElem_mem hlt)
    have hw := wrL_len hv
    have hz : (writ l[i].f0 l[i].f1 l[i].f2).size = (wrL l[i]).length := by unfold writ; rw [ofL_size]; rfl
    have hz2 : (acc ++ (⟨#[44, 32]⟩ : ByteArray)).size = acc.size + 2 := by rw [ByteArray.size_append]; rfl
    have hs : tacticianref01_String_s.f l[i].f0 l[i].f1 l[i].f2 = some (writ l[i].f0 l[i].f1 l[i].f2) := by unfold tacticianref01_String_s.f; exact if_pos hv
    rw [tacticianref02_Row.l0, if_pos (by omega), if_pos (by omega), if_pos (by omega), if_pos (by omega), rd_at l i hlt, hs, Option.bind_some, if_pos (by omega), wrap_small (n := (i : Int) + 1) (by omega) (by omega), show ((i : Int) + 1) = ((i + 1 : Nat) : Int) by omega]
    rw [refRow_loop l hl hok d (i + 1) k _ (by omega) (by omega) (by rw [ByteArray.size_append, hz2, hz]; omega) (by omega)]
    have : (writ l[i].f0 l[i].f1 l[i].f2).data.toList = wrL l[i] := by unfold writ; rw [ofL_data]; rfl
    rw [List.drop_eq_getElem_cons hlt, List.map_cons, joinTail_cons, append_data, append_data, this]
    simp only [List.append_assoc]
theorem refRow (l : List V) (hl : l.length ≤ 1000) (hok : ∀ v ∈ l, OkV v) (k : Nat) (hk : 1001 < k) : tacticianref02_Row.f k l = some (ofL (rowL l)) := by
  obtain ⟨k, rfl⟩ : ∃ m, k = m + 1 := ⟨k - 1, by omega⟩
  unfold tacticianref02_Row.f rowL
  have hsz : (⟨#[40]⟩ : ByteArray).size = 1 := rfl
  cases l with
  | nil =>
    rw [tacticianref02_Row.l0, if_neg (by rw [List.length_nil]; omega), if_pos (by omega)]
    rfl
  | cons v l =>
    have hv := hok v List.mem_cons_self
    have hw := wrL_len hv
    have hz : (writ v.f0 v.f1 v.f2).size = (wrL v).length := by unfold writ; rw [ofL_size]; rfl
    have hs : tacticianref01_String_s.f v.f0 v.f1 v.f2 = some (writ v.f0 v.f1 v.f2) := by unfold tacticianref01_String_s.f; exact if_pos hv
    have hr : rd_T61 (v :: l) 0 = v := rd_at (v :: l) 0 (by simp)
    have hln : (v :: l).length = l.length + 1 := rfl
    rw [tacticianref02_Row.l0, if_pos (by omega), if_neg (by omega), if_pos (by omega), hr, hs, Option.bind_some, if_pos (by omega), show wrap64 (0 + 1) = ((1 : Nat) : Int) from wrap_small (by omega) (by omega)]
    rw [refRow_loop (v :: l) hl hok l.length 1 k _ (by omega) (by omega) (by rw [ByteArray.size_append, hz]; omega) (by omega)]
    have : (writ v.f0 v.f1 v.f2).data.toList = wrL v := by unfold writ; rw [ofL_data]; rfl
    congr 2
    rw [append_data, this, List.map_cons, Lib.join_cons]
    simp only [List.append_assoc]
    rfl
theorem strOf_bytes (s : ByteArray) : strOfNums (bytesOf s) = s := by
  apply ba_ext
  unfold strOfNums bytesOf
  show ((s.data.toList.map fun b => (b.toNat : Int)).map fun n => UInt8.ofNat n.toNat).toArray.toList = s.data.toList
  rw [List.map_map, List.toList_toArray]
  refine (List.map_congr_left fun b _ => ?_).trans (List.map_id _)
  show UInt8.ofNat ((b.toNat : Int)).toNat = b
  rw [Int.toNat_natCast, UInt8.ofNat_toNat]
theorem bytesOf_append (s t : ByteArray) : bytesOf s ++ bytesOf t = bytesOf (s ++ t) := by
  unfold bytesOf
  rw [append_data, List.map_append]
theorem refString_loop (l : List (List V)) (hl : l.length ≤ 100000) (hok : ∀ r ∈ l, okRow r = true) : ∀ (d i k : Nat) (acc : ByteArray), i + d = l.length → acc.size ≤ 500000 * i → d + 1001 < k →
    tacticianref02_String.l0 k l (bytesOf acc) (i : Int) = some (ofL (acc.data.toList ++ strR (l.drop i)))
  | 0, i, k, acc, hi, ha, hk => by
    obtain ⟨k, rfl⟩ : ∃ m, k = m + 1 := ⟨k - 1, by omega⟩
    rw [tacticianref02_String.l0, if_neg (by omega), strOf_bytes, List.drop_of_length_le (by omega)]
    congr 1
    apply ba_ext
    rw [ofL_data]
    simp [strR]
  | d + 1, i, k, acc, hi, ha, hk => by
    obtain ⟨k, rfl⟩ : ∃ m, k = m + 1 := ⟨k - 1, by omega⟩
    have hlt : i < l.length := by omega
    have hv := okRow_spec (hok _ (List.getElem_mem hlt))
    have hw := (rowL_len (hok _ (List.getElem_mem hlt))).2
    have hz : (ofL (rowL l[i])).size = (rowL l[i]).length := ofL_size _
    have hz2 : (ofL (rowL l[i]) ++ (⟨#[10]⟩ : ByteArray)).size = (rowL l[i]).length + 1 := by rw [ByteArray.size_append, hz]; rfl
    have hb : (bytesOf acc).length = acc.size := bytesOf_length acc
    rw [tacticianref02_String.l0, if_pos (by omega), if_pos (by omega), rdL_at l i hlt, refRow _ hv.1 hv.2 k (by omega), Option.bind_some, if_pos (by omega), if_pos (by omega), bytesOf_append, wrap_small (n := (i : Int) + 1) (by omega) (by omega), show ((i : Int) + 1) = ((i + 1 : Nat) : Int) by omega]
    rw [refString_loop l hl hok d (i + 1) k _ (by omega) (by rw [ByteArray.size_append, hz2]; omega) (by omega)]
    have hd2 : strR (l.drop i) = rowL l[i] ++ 10 :: strR (l.drop (i + 1)) := by rw [List.drop_eq_getElem_cons hlt]; unfold strR; rw [List.flatMap_cons]; simp only [List.append_assoc, List.cons_append, List.nil_append]
    rw [hd2, append_data, append_data, ofL_data]
    simp
theorem refString (l : List (List V)) (hl : l.length ≤ 100000) (hok : ∀ r ∈ l, okRow r = true) (k : Nat) (hk : 110000 < k) : tacticianref02_String.f k l = some (ofL (strR l)) := by
  unfold tacticianref02_String.f
  exact refString_loop l hl hok l.length 0 k ⟨#[]⟩ (by omega) (by show 0 ≤ _; omega) (by omega)
end Go.Proofs.YtmhobbdedmjmnaaGreatDoor
end
section
namespace Go.Proofs.YtmhobbdedmjmnaaGreatDoor.Q
open Go.RowKit Go.Proofs.YtmhobbdedmjmnaaGreatDoorW.PrintWords Go.Proofs.YtmhobbdedmjmnaaGreatDoorW.PrintLast Go.Proofs.YtmhobbdedmjmnaaGreatDoorW.PrintMore
attribute [local go_sem] max2_int min2_int max_two min_two max_three min_three max_four min_four
set_option linter.unusedVariables false
set_option linter.unusedSimpArgs false
section
abbrev iV (n : Int) : V := ⟨1, n, ⟨#[]⟩⟩
theorem below_any {w w' : World} (h : Below w.heap.size w w') : Below w.heap.size w w' := h
theorem rowK {W : World} {A : Option Addr} {n c : Nat} {x : List V} (h : Kd.C k61 W A n x) (hc : n ≤ c) : (Kd.slice 61 k61).K W x [.slice A n c] := by
  obtain rfl := h.1
  exact ⟨A, c, rfl, hc, h⟩
theorem rowKnil {W : World} : (Kd.slice 61 k61).K W [] [.slice none 0 0] := ⟨none, 0, rfl, Nat.le_refl _, Kd.C_nil _ _⟩
theorem rowLit1 (n : Int) (W : World) {g : Nat} (hg : g = W.heap.size) : Calls Tryz.prog 57 #[.slice (some ⟨g, 0, none⟩) 1 1] (W.alloc (.cells #[.int .i64 n] 2)) fun e w' => ∃ A c, e = .returned (.slice A 1 c) ∧ 1 ≤ c ∧ Kd.C k61 w' A 1 [iV n] ∧ Below W.heap.size W w' := by
  subst hg
  have hC : Kd.C (Kd.int .i64) (W.alloc (.cells #[.int .i64 n] 2)) (some ⟨W.heap.size, 0, none⟩) 1 [n] := C_lit rfl (blk_new W _) (Reps.one rfl (Reps.none _ _)) (show 1 ≤ 1000 by decide)
  refine (tacticianlaw02_row.calls 3 (some ⟨W.heap.size, 0, none⟩) 1 [n] [iV n] _ hC (Nat.le_refl _) (by simp [tacticianlaw02_row.f, tacticianlaw02_row.l0, tacticianref01_Int.f, rd, iV, wrap64])).mono ?_
  rintro e w' ⟨v, rfl, hv, hb⟩
  obtain ⟨A, c, rfl, h1, h2⟩ := Kd.R_reads hv
  exact ⟨A, c, rfl, h1, h2, below_step (below_alloc (Below.refl _ _) _) hb⟩
theorem rowLit2 (n m : Int) (W : World) {g : Nat} (hg : g = W.heap.size) : Calls Tryz.prog 57 #[.slice (some ⟨g, 0, none⟩) 2 2] (W.alloc (.cells #[.int .i64 n, .int .i64 m] 2)) fun e w' => ∃ A c, e = .returned (.slice A 2 c) ∧ 2 ≤ c ∧ Kd.C k61 w' A 2 [iV n, iV m] ∧ Below W.heap.size W w' := by
  subst hg
  have hC : Kd.C (Kd.int .i64) (W.alloc (.cells #[.int .i64 n, .int .i64 m] 2)) (some ⟨W.heap.size, 0, none⟩) 2 [n, m] := C_lit rfl (blk_new W _) (Reps.one rfl (Reps.one rfl (Reps.none _ _))) (show 2 ≤ 1000 by decide)
  refine (tacticianlaw02_row.calls 4 (some ⟨W.heap.size, 0, none⟩) 2 [n, m] [iV n, iV m] _ hC (Nat.le_refl _) (by simp [tacticianlaw02_row.f, tacticianlaw02_row.l0, tacticianref01_Int.f, rd, iV, wrap64])).mono ?_
  rintro e w' ⟨v, rfl, hv, hb⟩
  obtain ⟨A, c, rfl, h1, h2⟩ := Kd.R_reads hv
  exact ⟨A, c, rfl, h1, h2, below_step (below_alloc (Below.refl _ _) _) hb⟩
theorem keyLit {W : World} (g : Nat) (h : W.heap[g]? = some (.cells #[.int .i64 1, .bool true] 36 (0, 0))) : Kd.C k36 W (some ⟨g, 0, none⟩) 1 [(⟨1, true⟩ : KK)] :=
  ⟨rfl, by decide, fun _ => ⟨_, rfl, fun j p hj => by
    have hj0 : j = 0 := by
      have := (List.getElem?_eq_some_iff.1 hj).1
      simpa using this
    subst hj0
    have hp : (⟨1, true⟩ : KK) = p := by simpa using hj
    subst hp
    exact ⟨[.int .i64 1, .bool true], rfl, ⟨[.int .i64 1], [.bool true], rfl, rfl, rfl⟩, fun i u hu => by
      rw [show 0 * (k36).sz + i = i by rw [Nat.zero_mul, Nat.zero_add], add_at, Nat.zero_add, blk_cell h]
      simpa using hu⟩⟩⟩
theorem keyLit2 (W : World) (x : Obj) : Kd.C k36 ((W.alloc x).alloc (.cells #[.int .i64 1, .bool true] 36)) (some ⟨W.heap.size + 1, 0, none⟩) 1 [(⟨1, true⟩ : KK)] := by
  have h := blk_new (W.alloc x) (.cells #[.int .i64 1, .bool true] 36)
  rw [show (W.alloc x).heap.size = W.heap.size + 1 by simp] at h
  exact keyLit _ h
theorem canR_is {l r : List (List V)} (h1 : r.Perm l) (h2 : r.Pairwise fun a b => leOf cfR a b = true) : canR l = r := (cfR_tc.unique h1 h2).symm
theorem sortK_is (ks : List (Int × Bool)) {l r : List (List V)} (h1 : r.Perm l) (h2 : r.Pairwise fun a b => leOf (cfK ks) a b = true) : sortBy (cfK ks) l = r := ((cfK_tc ks).unique h1 h2).symm
theorem aw_HX : rows_Both.f [[iV 1], [iV 1], [iV 2]] [[iV 1], [iV 3]] true = some ([[iV 1]], 0) := by
  unfold rows_Both.f
  rw [if_pos (by decide +kernel), if_pos (by decide +kernel), if_pos rfl, canR_is (r := [[iV 1]]) (by decide +kernel) (by decide +kernel)]
theorem aw_HY : rows_Minus.f [[iV 1], [iV 1], [iV 2]] [[iV 1], [iV 3]] true = some ([[iV 1], [iV 2]], 0) := by
  unfold rows_Minus.f
  rw [if_pos (by decide +kernel), if_pos (by decide +kernel), if_pos rfl, canR_is (r := [[iV 1], [iV 2]]) (by decide +kernel) (by decide +kernel)]
theorem aw_one : oneR [[iV 1], [iV 1], [iV 2]] = [[iV 1], [iV 2]] := by
  unfold oneR
  rw [canR_is (r := [[iV 1], [iV 1], [iV 2]]) (by decide +kernel) (by decide +kernel)]
  decide +kernel
theorem aw_HZ : rows_Minus.f [[iV 1], [iV 1], [iV 2]] [[iV 1], [iV 3]] false = some ([[iV 2]], 0) := by
  unfold rows_Minus.f
  rw [if_pos (by decide +kernel), if_pos (by decide +kernel), if_neg (by decide), aw_one, canR_is (r := [[iV 2]]) (by decide +kernel) (by decide +kernel)]
theorem aw_HOO : rows_Ordered.f [[iV 1, iV 2], [iV 2, iV 1], [iV 1, iV 1]] [(⟨1, true⟩ : KK)] = some ([[iV 1, iV 2], [iV 1, iV 1], [iV 2, iV 1]], 0) := by
  unfold rows_Ordered.f
  rw [if_pos (by decide +kernel), if_pos (by decide +kernel), if_pos (by decide +kernel), sortK_is _ (r := [[iV 1, iV 2], [iV 1, iV 1], [iV 2, iV 1]]) (by decide +kernel) (by decide +kernel)]
theorem aw_S : rows_String.f [[iV 1, iV 2], []] = some (⟨#[40, 49, 44, 32, 50, 41, 10, 40, 41, 10]⟩, 0) := by
  unfold rows_String.f
  rw [if_pos (by decide +kernel), if_pos (by decide +kernel), if_pos (by decide +kernel)]
  decide +kernel
def tacticianlaw02_awake.f : Option Bool := some true
set_option maxRecDepth 100000 in
set_option maxHeartbeats 8000000 in
theorem tacticianlaw02_awake.calls (r : Bool) (w : World) (hL_ : Laid w) (h : tacticianlaw02_awake.f = some r) :
  Calls Tryz.prog 18 #[] w fun e w' => e = .returned (.bool r) ∧ Below w.heap.size w w' := by
 obtain rfl := Option.some.inj h
 clear h
 have HLD := aM hL_
 clear hL_
 have hu36 := Tryz.underlying36
 have HB := aM (Below.refl w.heap.size w)
 go_enter Tryz.func18, Tryz.ntmps18
 go_wp2_with fail
 refine (rowLit1 1 (w) (by first | rfl | (go_simp; done) | (go_simp; rfl))).mono ?_
 rintro e w1 ⟨A1, c1, rfl, hl1, hC1, hb1⟩
 have HT := aM (below_step HB.out hb1)
 clear HB
 have HB := HT
 clear HT
 have HC1 := aM hC1
 have HL1 := aM hl1
 clear hC1 hl1 hb1
 go_wp2_with fail
 refine (rowLit1 1 (w1) (by first | rfl | (go_simp; done) | (go_simp; rfl))).mono ?_
 rintro e w2 ⟨A2, c2, rfl, hl2, hC2, hb2⟩
 have HC1_ := aM (Kd.C_below HC1.out hb2)
 clear HC1
 have HC1 := HC1_
 clear HC1_
 have HT := aM (below_step HB.out hb2)
 clear HB
 have HB := HT
 clear HT
 have HC2 := aM hC2
 have HL2 := aM hl2
 clear hC2 hl2 hb2
 go_wp2_with fail
 refine (rowLit1 2 (w2) (by first | rfl | (go_simp; done) | (go_simp; rfl))).mono ?_
 rintro e w3 ⟨A3, c3, rfl, hl3, hC3, hb3⟩
 have HC1_ := aM (Kd.C_below HC1.out hb3)
 clear HC1
 have HC1 := HC1_
 clear HC1_
 have HC2_ := aM (Kd.C_below HC2.out hb3)
 clear HC2
 have HC2 := HC2_
 clear HC2_
 have HT := aM (below_step HB.out hb3)
 clear HB
 have HB := HT
 clear HT
 have HC3 := aM hC3
 have HL3 := aM hl3
 clear hC3 hl3 hb3
 have HC1_ := aM (Kd.C_below HC1.out (below_alloc (Below.refl _ _) (.cells #[.slice A1 1 c1, .slice A2 1 c2, .slice A3 1 c3] 40)))
 clear HC1
 have HC1 := HC1_
 clear HC1_
 have HC2_ := aM (Kd.C_below HC2.out (below_alloc (Below.refl _ _) (.cells #[.slice A1 1 c1, .slice A2 1 c2, .slice A3 1 c3] 40)))
 clear HC2
 have HC2 := HC2_
 clear HC2_
 have HC3_ := aM (Kd.C_below HC3.out (below_alloc (Below.refl _ _) (.cells #[.slice A1 1 c1, .slice A2 1 c2, .slice A3 1 c3] 40)))
 clear HC3
 have HC3 := HC3_
 clear HC3_
 have HA : Aside0 (Kd.C (Kd.slice 61 k61) (w3.alloc (.cells #[.slice A1 1 c1, .slice A2 1 c2, .slice A3 1 c3] 40)) _ 3 [[iV 1], [iV 1], [iV 2]]) := ⟨C_lit rfl (blk_new _ _) (Reps.one (rowK HC1.out HL1.out) (Reps.one (rowK HC2.out HL2.out) (Reps.one (rowK HC3.out HL3.out) (Reps.none _ _)))) (show 3 ≤ 1000 by decide)⟩
 clear HC1 HL1
 clear HC2 HL2
 clear HC3 HL3
 have HT := aM (below_alloc HB.out (.cells #[.slice A1 1 c1, .slice A2 1 c2, .slice A3 1 c3] 40))
 clear HB
 have HB := HT
 clear HT
 go_wp2_with fail
 refine (rowLit1 1 (w3.alloc (.cells #[.slice A1 1 c1, .slice A2 1 c2, .slice A3 1 c3] 40)) (by first | rfl | (go_simp; done) | (go_simp; rfl))).mono ?_
 rintro e w4 ⟨A4, c4, rfl, hl4, hC4, hb4⟩
 have HA_ := aM (Kd.C_below HA.out hb4)
 clear HA
 have HA := HA_
 clear HA_
 have HT := aM (below_step HB.out hb4)
 clear HB
 have HB := HT
 clear HT
 have HC4 := aM hC4
 have HL4 := aM hl4
 clear hC4 hl4 hb4
 go_wp2_with fail
 refine (rowLit1 3 (w4) (by first | rfl | (go_simp; done) | (go_simp; rfl))).mono ?_
 rintro e w5 ⟨A5, c5, rfl, hl5, hC5, hb5⟩
 have HA_ := aM (Kd.C_below HA.out hb5)
 clear HA
 have HA := HA_
 clear HA_
 have HC4_ := aM (Kd.C_below HC4.out hb5)
 clear HC4
 have HC4 := HC4_
 clear HC4_
 have HT := aM (below_step HB.out hb5)
 clear HB
 have HB := HT
 clear HT
 have HC5 := aM hC5
 have HL5 := aM hl5
 clear hC5 hl5 hb5
 have HA_ := aM (Kd.C_below HA.out (below_alloc (Below.refl _ _) (.cells #[.slice A4 1 c4, .slice A5 1 c5] 40)))
 clear HA
 have HA := HA_
 clear HA_
 have HC4_ := aM (Kd.C_below HC4.out (below_alloc (Below.refl _ _) (.cells #[.slice A4 1 c4, .slice A5 1 c5] 40)))
 clear HC4
 have HC4 := HC4_
 clear HC4_
 have HC5_ := aM (Kd.C_below HC5.out (below_alloc (Below.refl _ _) (.cells #[.slice A4 1 c4, .slice A5 1 c5] 40)))
 clear HC5
 have HC5 := HC5_
 clear HC5_
 have HBB : Aside0 (Kd.C (Kd.slice 61 k61) (w5.alloc (.cells #[.slice A4 1 c4, .slice A5 1 c5] 40)) _ 2 [[iV 1], [iV 3]]) := ⟨C_lit rfl (blk_new _ _) (Reps.one (rowK HC4.out HL4.out) (Reps.one (rowK HC5.out HL5.out) (Reps.none _ _))) (show 2 ≤ 1000 by decide)⟩
 clear HC4 HL4
 clear HC5 HL5
 have HT := aM (below_alloc HB.out (.cells #[.slice A4 1 c4, .slice A5 1 c5] 40))
 clear HB
 have HB := HT
 clear HT
 go_wp2_with fail
 refine (rows_Both.calls _ _ [[iV 1], [iV 1], [iV 2]] _ _ [[iV 1], [iV 3]] true [[iV 1]] 0 _ HA.out (Nat.le_refl _) HBB.out (Nat.le_refl _) (HLD.out.below HB.out) (by exact aw_HX)).mono ?_
 rintro e w6 ⟨v6, rfl, hv6, hb6⟩
 obtain ⟨A6, c6, rfl, hl6, hC6⟩ := Kd.S_reads hv6
 have HA_ := aM (Kd.C_below HA.out hb6)
 clear HA
 have HA := HA_
 clear HA_
 have HBB_ := aM (Kd.C_below HBB.out hb6)
 clear HBB
 have HBB := HBB_
 clear HBB_
 have HT := aM (below_step HB.out hb6)
 clear HB
 have HB := HT
 clear HT
 have HX := aM hC6
 have LHX := aM hl6
 clear hC6 hl6 hv6 hb6
 go_wp2_with fail
 refine (rows_Minus.calls _ _ [[iV 1], [iV 1], [iV 2]] _ _ [[iV 1], [iV 3]] true [[iV 1], [iV 2]] 0 _ HA.out (Nat.le_refl _) HBB.out (Nat.le_refl _) (HLD.out.below HB.out) (by exact aw_HY)).mono ?_
 rintro e w7 ⟨v7, rfl, hv7, hb7⟩
 obtain ⟨A7, c7, rfl, hl7, hC7⟩ := Kd.S_reads hv7
 have HA_ := aM (Kd.C_below HA.out hb7)
 clear HA
 have HA := HA_
 clear HA_
 have HBB_ := aM (Kd.C_below HBB.out hb7)
 clear HBB
 have HBB := HBB_
 clear HBB_
 have HX_ := aM (Kd.C_below HX.out hb7)
 clear HX
 have HX := HX_
 clear HX_
 have HT := aM (below_step HB.out hb7)
 clear HB
 have HB := HT
 clear HT
 have HY := aM hC7
 have LHY := aM hl7
 clear hC7 hl7 hv7 hb7
 go_wp2_with fail
 refine (rows_Minus.calls _ _ [[iV 1], [iV 1], [iV 2]] _ _ [[iV 1], [iV 3]] false [[iV 2]] 0 _ HA.out (Nat.le_refl _) HBB.out (Nat.le_refl _) (HLD.out.below HB.out) (by exact aw_HZ)).mono ?_
 rintro e w8 ⟨v8, rfl, hv8, hb8⟩
 obtain ⟨A8, c8, rfl, hl8, hC8⟩ := Kd.S_reads hv8
 have HA_ := aM (Kd.C_below HA.out hb8)
 clear HA
 have HA := HA_
 clear HA_
 have HBB_ := aM (Kd.C_below HBB.out hb8)
 clear HBB
 have HBB := HBB_
 clear HBB_
 have HX_ := aM (Kd.C_below HX.out hb8)
 clear HX
 have HX := HX_
 clear HX_
 have HY_ := aM (Kd.C_below HY.out hb8)
 clear HY
 have HY := HY_
 clear HY_
 have HT := aM (below_step HB.out hb8)
 clear HB
 have HB := HT
 clear HT
 have HZ := aM hC8
 have LHZ := aM hl8
 clear hC8 hl8 hv8 hb8
 clear HA HBB
 go_wp2_with fail
 refine (rowLit2 1 2 (w8) (by first | rfl | (go_simp; done) | (go_simp; rfl))).mono ?_
 rintro e w9 ⟨A9, c9, rfl, hl9, hC9, hb9⟩
 have HX_ := aM (Kd.C_below HX.out hb9)
 clear HX
 have HX := HX_
 clear HX_
 have HY_ := aM (Kd.C_below HY.out hb9)
 clear HY
 have HY := HY_
 clear HY_
 have HZ_ := aM (Kd.C_below HZ.out hb9)
 clear HZ
 have HZ := HZ_
 clear HZ_
 have HT := aM (below_step HB.out hb9)
 clear HB
 have HB := HT
 clear HT
 have HC9 := aM hC9
 have HL9 := aM hl9
 clear hC9 hl9 hb9
 go_wp2_with fail
 refine (rowLit2 2 1 (w9) (by first | rfl | (go_simp; done) | (go_simp; rfl))).mono ?_
 rintro e w10 ⟨A10, c10, rfl, hl10, hC10, hb10⟩
 have HX_ := aM (Kd.C_below HX.out hb10)
 clear HX
 have HX := HX_
 clear HX_
 have HY_ := aM (Kd.C_below HY.out hb10)
 clear HY
 have HY := HY_
 clear HY_
 have HZ_ := aM (Kd.C_below HZ.out hb10)
 clear HZ
 have HZ := HZ_
 clear HZ_
 have HC9_ := aM (Kd.C_below HC9.out hb10)
 clear HC9
 have HC9 := HC9_
 clear HC9_
 have HT := aM (below_step HB.out hb10)
 clear HB
 have HB := HT
 clear HT
 have HC10 := aM hC10
 have HL10 := aM hl10
 clear hC10 hl10 hb10
 go_wp2_with fail
 refine (rowLit2 1 1 (w10) (by first | rfl | (go_simp; done) | (go_simp; rfl))).mono ?_
 rintro e w11 ⟨A11, c11, rfl, hl11, hC11, hb11⟩
 have HX_ := aM (Kd.C_below HX.out hb11)
 clear HX
 have HX := HX_
 clear HX_
 have HY_ := aM (Kd.C_below HY.out hb11)
 clear HY
 have HY := HY_
 clear HY_
 have HZ_ := aM (Kd.C_below HZ.out hb11)
 clear HZ
 have HZ := HZ_
 clear HZ_
 have HC9_ := aM (Kd.C_below HC9.out hb11)
 clear HC9
 have HC9 := HC9_
 clear HC9_
 have HC10_ := aM (Kd.C_below HC10.out hb11)
 clear HC10
 have HC10 := HC10_
 clear HC10_
 have HT := aM (below_step HB.out hb11)
 clear HB
 have HB := HT
 clear HT
 have HC11 := aM hC11
 have HL11 := aM hl11
 clear hC11 hl11 hb11
 have HX_ := aM (Kd.C_below HX.out (below_alloc (Below.refl _ _) (.cells #[.slice A9 2 c9, .slice A10 2 c10, .slice A11 2 c11] 40)))
 clear HX
 have HX := HX_
 clear HX_
 have HY_ := aM (Kd.C_below HY.out (below_alloc (Below.refl _ _) (.cells #[.slice A9 2 c9, .slice A10 2 c10, .slice A11 2 c11] 40)))
 clear HY
 have HY := HY_
 clear HY_
 have HZ_ := aM (Kd.C_below HZ.out (below_alloc (Below.refl _ _) (.cells #[.slice A9 2 c9, .slice A10 2 c10, .slice A11 2 c11] 40)))
 clear HZ
 have HZ := HZ_
 clear HZ_
 have HC9_ := aM (Kd.C_below HC9.out (below_alloc (Below.refl _ _) (.cells #[.slice A9 2 c9, .slice A10 2 c10, .slice A11 2 c11] 40)))
 clear HC9
 have HC9 := HC9_
 clear HC9_
 have HC10_ := aM (Kd.C_below HC10.out (below_alloc (Below.refl _ _) (.cells #[.slice A9 2 c9, .slice A10 2 c10, .slice A11 2 c11] 40)))
 clear HC10
 have HC10 := HC10_
 clear HC10_
 have HC11_ := aM (Kd.C_below HC11.out (below_alloc (Below.refl _ _) (.cells #[.slice A9 2 c9, .slice A10 2 c10, .slice A11 2 c11] 40)))
 clear HC11
 have HC11 := HC11_
 clear HC11_
 have HO0 : Aside0 (Kd.C (Kd.slice 61 k61) (w11.alloc (.cells #[.slice A9 2 c9, .slice A10 2 c10, .slice A11 2 c11] 40)) _ 3 [[iV 1, iV 2], [iV 2, iV 1], [iV 1, iV 1]]) := ⟨C_lit rfl (blk_new _ _) (Reps.one (rowK HC9.out HL9.out) (Reps.one (rowK HC10.out HL10.out) (Reps.one (rowK HC11.out HL11.out) (Reps.none _ _)))) (show 3 ≤ 1000 by decide)⟩
 clear HC9 HL9
 clear HC10 HL10
 clear HC11 HL11
 have HT := aM (below_alloc HB.out (.cells #[.slice A9 2 c9, .slice A10 2 c10, .slice A11 2 c11] 40))
 clear HB
 have HB := HT
 clear HT
 go_wp2_with fail
 have HX_ := aM (Kd.C_below HX.out (below_alloc (Below.refl _ _) (.cells #[.int .i64 1, .bool true] 36)))
 clear HX
 have HX := HX_
 clear HX_
 have HY_ := aM (Kd.C_below HY.out (below_alloc (Below.refl _ _) (.cells #[.int .i64 1, .bool true] 36)))
 clear HY
 have HY := HY_
 clear HY_
 have HZ_ := aM (Kd.C_below HZ.out (below_alloc (Below.refl _ _) (.cells #[.int .i64 1, .bool true] 36)))
 clear HZ
 have HZ := HZ_
 clear HZ_
 have HO0_ := aM (Kd.C_below HO0.out (below_alloc (Below.refl _ _) (.cells #[.int .i64 1, .bool true] 36)))
 clear HO0
 have HO0 := HO0_
 clear HO0_
 have HT := aM (below_alloc HB.out (.cells #[.int .i64 1, .bool true] 36))
 clear HB
 have HB := HT
 clear HT
 have HKY : Aside0 (Kd.C k36 ((w11.alloc (.cells #[.slice A9 2 c9, .slice A10 2 c10, .slice A11 2 c11] 40)).alloc (.cells #[.int .i64 1, .bool true] 36)) (some ⟨w11.heap.size + 1, 0, none⟩) 1 [(⟨1, true⟩ : KK)]) := ⟨keyLit2 _ _⟩
 refine (rows_Ordered.calls _ _ [[iV 1, iV 2], [iV 2, iV 1], [iV 1, iV 1]] _ _ [(⟨1, true⟩ : KK)] [[iV 1, iV 2], [iV 1, iV 1], [iV 2, iV 1]] 0 _ HO0.out (Nat.le_refl _) HKY.out (Nat.le_refl _) (by exact aw_HOO)).mono ?_
 rintro e w12 ⟨v12, rfl, hv12, hb12⟩
 obtain ⟨A12, c12, rfl, hl12, hC12⟩ := Kd.S_reads hv12
 clear HO0 HKY
 have HX_ := aM (Kd.C_below HX.out hb12)
 clear HX
 have HX := HX_
 clear HX_
 have HY_ := aM (Kd.C_below HY.out hb12)
 clear HY
 have HY := HY_
 clear HY_
 have HZ_ := aM (Kd.C_below HZ.out hb12)
 clear HZ
 have HZ := HZ_
 clear HZ_
 have HT := aM (below_step HB.out hb12)
 clear HB
 have HB := HT
 clear HT
 have HOO := aM hC12
 have LHOO := aM hl12
 clear hC12 hl12 hv12 hb12
 go_wp2_with fail
 refine (rowLit2 1 2 (w12) (by first | rfl | (go_simp; done) | (go_simp; rfl))).mono ?_
 rintro e w13 ⟨A13, c13, rfl, hl13, hC13, hb13⟩
 have HX_ := aM (Kd.C_below HX.out hb13)
 clear HX
 have HX := HX_
 clear HX_
 have HY_ := aM (Kd.C_below HY.out hb13)
 clear HY
 have HY := HY_
 clear HY_
 have HZ_ := aM (Kd.C_below HZ.out hb13)
 clear HZ
 have HZ := HZ_
 clear HZ_
 have HOO_ := aM (Kd.C_below HOO.out hb13)
 clear HOO
 have HOO := HOO_
 clear HOO_
 have HT := aM (below_step HB.out hb13)
 clear HB
 have HB := HT
 clear HT
 have HC13 := aM hC13
 have HL13 := aM hl13
 clear hC13 hl13 hb13
 have HX_ := aM (Kd.C_below HX.out (below_alloc (Below.refl _ _) (.cells #[.slice A13 2 c13, .slice none 0 0] 40)))
 clear HX
 have HX := HX_
 clear HX_
 have HY_ := aM (Kd.C_below HY.out (below_alloc (Below.refl _ _) (.cells #[.slice A13 2 c13, .slice none 0 0] 40)))
 clear HY
 have HY := HY_
 clear HY_
 have HZ_ := aM (Kd.C_below HZ.out (below_alloc (Below.refl _ _) (.cells #[.slice A13 2 c13, .slice none 0 0] 40)))
 clear HZ
 have HZ := HZ_
 clear HZ_
 have HOO_ := aM (Kd.C_below HOO.out (below_alloc (Below.refl _ _) (.cells #[.slice A13 2 c13, .slice none 0 0] 40)))
 clear HOO
 have HOO := HOO_
 clear HOO_
 have HC13_ := aM (Kd.C_below HC13.out (below_alloc (Below.refl _ _) (.cells #[.slice A13 2 c13, .slice none 0 0] 40)))
 clear HC13
 have HC13 := HC13_
 clear HC13_
 have HS0 : Aside0 (Kd.C (Kd.slice 61 k61) (w13.alloc (.cells #[.slice A13 2 c13, .slice none 0 0] 40)) _ 2 [[iV 1, iV 2], []]) := ⟨C_lit rfl (blk_new _ _) (Reps.one (rowK HC13.out HL13.out) (Reps.one rowKnil (Reps.none _ _))) (show 2 ≤ 1000 by decide)⟩
 clear HC13 HL13
 have HT := aM (below_alloc HB.out (.cells #[.slice A13 2 c13, .slice none 0 0] 40))
 clear HB
 have HB := HT
 clear HT
 go_wp2_with fail
 refine (rows_String.calls _ _ [[iV 1, iV 2], []] ⟨#[40, 49, 44, 32, 50, 41, 10, 40, 41, 10]⟩ 0 _ HS0.out (Nat.le_refl _) (HLD.out.below HB.out) (by exact aw_S)).mono ?_
 rintro e w14 ⟨rfl, hb14⟩
 clear HS0
 have HX_ := aM (Kd.C_below HX.out hb14)
 clear HX
 have HX := HX_
 clear HX_
 have HY_ := aM (Kd.C_below HY.out hb14)
 clear HY
 have HY := HY_
 clear HY_
 have HZ_ := aM (Kd.C_below HZ.out hb14)
 clear HZ
 have HZ := HZ_
 clear HZ_
 have HOO_ := aM (Kd.C_below HOO.out hb14)
 clear HOO
 have HOO := HOO_
 clear HOO_
 have HT := aM (below_step HB.out hb14)
 clear HB hb14
 have HB := HT
 clear HT
 go_wp2_with fail
 refine (rowLit1 1 (w14) (by first | rfl | (go_simp; done) | (go_simp; rfl))).mono ?_
 rintro e w15 ⟨A15, c15, rfl, hl15, hC15, hb15⟩
 have HX_ := aM (Kd.C_below HX.out hb15)
 clear HX
 have HX := HX_
 clear HX_
 have HY_ := aM (Kd.C_below HY.out hb15)
 clear HY
 have HY := HY_
 clear HY_
 have HZ_ := aM (Kd.C_below HZ.out hb15)
 clear HZ
 have HZ := HZ_
 clear HZ_
 have HOO_ := aM (Kd.C_below HOO.out hb15)
 clear HOO
 have HOO := HOO_
 clear HOO_
 have HT := aM (below_step HB.out hb15)
 clear HB
 have HB := HT
 clear HT
 have HC15 := aM hC15
 have HL15 := aM hl15
 clear hC15 hl15 hb15
 have HX_ := aM (Kd.C_below HX.out (below_alloc (Below.refl _ _) (.cells #[.slice A15 1 c15] 40)))
 clear HX
 have HX := HX_
 clear HX_
 have HY_ := aM (Kd.C_below HY.out (below_alloc (Below.refl _ _) (.cells #[.slice A15 1 c15] 40)))
 clear HY
 have HY := HY_
 clear HY_
 have HZ_ := aM (Kd.C_below HZ.out (below_alloc (Below.refl _ _) (.cells #[.slice A15 1 c15] 40)))
 clear HZ
 have HZ := HZ_
 clear HZ_
 have HOO_ := aM (Kd.C_below HOO.out (below_alloc (Below.refl _ _) (.cells #[.slice A15 1 c15] 40)))
 clear HOO
 have HOO := HOO_
 clear HOO_
 have HC15_ := aM (Kd.C_below HC15.out (below_alloc (Below.refl _ _) (.cells #[.slice A15 1 c15] 40)))
 clear HC15
 have HC15 := HC15_
 clear HC15_
 have HQ : Aside0 (Kd.C (Kd.slice 61 k61) (w15.alloc (.cells #[.slice A15 1 c15] 40)) _ 1 [[iV 1]]) := ⟨C_lit rfl (blk_new _ _) (Reps.one (rowK HC15.out HL15.out) (Reps.none _ _)) (show 1 ≤ 1000 by decide)⟩
 clear HC15 HL15
 have HT := aM (below_alloc HB.out (.cells #[.slice A15 1 c15] 40))
 clear HB
 have HB := HT
 clear HT
 go_wp2_with fail
 refine (tacticianref02_Equal.calls 20 _ _ [[iV 1]] _ _ [[iV 1]] true _ HX.out LHX.out HQ.out (Nat.le_refl _) (by decide +kernel)).mono ?_
 rintro e w16 ⟨rfl, hb16⟩
 replace hb16 := below_any hb16
 clear HQ
 have HX_ := aM (Kd.C_below HX.out hb16)
 clear HX
 have HX := HX_
 clear HX_
 have HY_ := aM (Kd.C_below HY.out hb16)
 clear HY
 have HY := HY_
 clear HY_
 have HZ_ := aM (Kd.C_below HZ.out hb16)
 clear HZ
 have HZ := HZ_
 clear HZ_
 have HOO_ := aM (Kd.C_below HOO.out hb16)
 clear HOO
 have HOO := HOO_
 clear HOO_
 have HT := aM (below_step HB.out hb16)
 clear HB hb16
 have HB := HT
 clear HT
 clear HX LHX
 go_wp2_with fail
 refine (rowLit1 1 (w16) (by first | rfl | (go_simp; done) | (go_simp; rfl))).mono ?_
 rintro e w17 ⟨A17, c17, rfl, hl17, hC17, hb17⟩
 have HY_ := aM (Kd.C_below HY.out hb17)
 clear HY
 have HY := HY_
 clear HY_
 have HZ_ := aM (Kd.C_below HZ.out hb17)
 clear HZ
 have HZ := HZ_
 clear HZ_
 have HOO_ := aM (Kd.C_below HOO.out hb17)
 clear HOO
 have HOO := HOO_
 clear HOO_
 have HT := aM (below_step HB.out hb17)
 clear HB
 have HB := HT
 clear HT
 have HC17 := aM hC17
 have HL17 := aM hl17
 clear hC17 hl17 hb17
 go_wp2_with fail
 refine (rowLit1 2 (w17) (by first | rfl | (go_simp; done) | (go_simp; rfl))).mono ?_
 rintro e w18 ⟨A18, c18, rfl, hl18, hC18, hb18⟩
 have HY_ := aM (Kd.C_below HY.out hb18)
 clear HY
 have HY := HY_
 clear HY_
 have HZ_ := aM (Kd.C_below HZ.out hb18)
 clear HZ
 have HZ := HZ_
 clear HZ_
 have HOO_ := aM (Kd.C_below HOO.out hb18)
 clear HOO
 have HOO := HOO_
 clear HOO_
 have HC17_ := aM (Kd.C_below HC17.out hb18)
 clear HC17
 have HC17 := HC17_
 clear HC17_
 have HT := aM (below_step HB.out hb18)
 clear HB
 have HB := HT
 clear HT
 have HC18 := aM hC18
 have HL18 := aM hl18
 clear hC18 hl18 hb18
 have HY_ := aM (Kd.C_below HY.out (below_alloc (Below.refl _ _) (.cells #[.slice A17 1 c17, .slice A18 1 c18] 40)))
 clear HY
 have HY := HY_
 clear HY_
 have HZ_ := aM (Kd.C_below HZ.out (below_alloc (Below.refl _ _) (.cells #[.slice A17 1 c17, .slice A18 1 c18] 40)))
 clear HZ
 have HZ := HZ_
 clear HZ_
 have HOO_ := aM (Kd.C_below HOO.out (below_alloc (Below.refl _ _) (.cells #[.slice A17 1 c17, .slice A18 1 c18] 40)))
 clear HOO
 have HOO := HOO_
 clear HOO_
 have HC17_ := aM (Kd.C_below HC17.out (below_alloc (Below.refl _ _) (.cells #[.slice A17 1 c17, .slice A18 1 c18] 40)))
 clear HC17
 have HC17 := HC17_
 clear HC17_
 have HC18_ := aM (Kd.C_below HC18.out (below_alloc (Below.refl _ _) (.cells #[.slice A17 1 c17, .slice A18 1 c18] 40)))
 clear HC18
 have HC18 := HC18_
 clear HC18_
 have HQ : Aside0 (Kd.C (Kd.slice 61 k61) (w18.alloc (.cells #[.slice A17 1 c17, .slice A18 1 c18] 40)) _ 2 [[iV 1], [iV 2]]) := ⟨C_lit rfl (blk_new _ _) (Reps.one (rowK HC17.out HL17.out) (Reps.one (rowK HC18.out HL18.out) (Reps.none _ _))) (show 2 ≤ 1000 by decide)⟩
 clear HC17 HL17
 clear HC18 HL18
 have HT := aM (below_alloc HB.out (.cells #[.slice A17 1 c17, .slice A18 1 c18] 40))
 clear HB
 have HB := HT
 clear HT
 go_wp2_with fail
 refine (tacticianref02_Equal.calls 20 _ _ [[iV 1], [iV 2]] _ _ [[iV 1], [iV 2]] true _ HY.out LHY.out HQ.out (Nat.le_refl _) (by decide +kernel)).mono ?_
 rintro e w19 ⟨rfl, hb19⟩
 replace hb19 := below_any hb19
 clear HQ
 have HY_ := aM (Kd.C_below HY.out hb19)
 clear HY
 have HY := HY_
 clear HY_
 have HZ_ := aM (Kd.C_below HZ.out hb19)
 clear HZ
 have HZ := HZ_
 clear HZ_
 have HOO_ := aM (Kd.C_below HOO.out hb19)
 clear HOO
 have HOO := HOO_
 clear HOO_
 have HT := aM (below_step HB.out hb19)
 clear HB hb19
 have HB := HT
 clear HT
 clear HY LHY
 go_wp2_with fail
 refine (rowLit1 2 (w19) (by first | rfl | (go_simp; done) | (go_simp; rfl))).mono ?_
 rintro e w20 ⟨A20, c20, rfl, hl20, hC20, hb20⟩
 have HZ_ := aM (Kd.C_below HZ.out hb20)
 clear HZ
 have HZ := HZ_
 clear HZ_
 have HOO_ := aM (Kd.C_below HOO.out hb20)
 clear HOO
 have HOO := HOO_
 clear HOO_
 have HT := aM (below_step HB.out hb20)
 clear HB
 have HB := HT
 clear HT
 have HC20 := aM hC20
 have HL20 := aM hl20
 clear hC20 hl20 hb20
 have HZ_ := aM (Kd.C_below HZ.out (below_alloc (Below.refl _ _) (.cells #[.slice A20 1 c20] 40)))
 clear HZ
 have HZ := HZ_
 clear HZ_
 have HOO_ := aM (Kd.C_below HOO.out (below_alloc (Below.refl _ _) (.cells #[.slice A20 1 c20] 40)))
 clear HOO
 have HOO := HOO_
 clear HOO_
 have HC20_ := aM (Kd.C_below HC20.out (below_alloc (Below.refl _ _) (.cells #[.slice A20 1 c20] 40)))
 clear HC20
 have HC20 := HC20_
 clear HC20_
 have HQ : Aside0 (Kd.C (Kd.slice 61 k61) (w20.alloc (.cells #[.slice A20 1 c20] 40)) _ 1 [[iV 2]]) := ⟨C_lit rfl (blk_new _ _) (Reps.one (rowK HC20.out HL20.out) (Reps.none _ _)) (show 1 ≤ 1000 by decide)⟩
 clear HC20 HL20
 have HT := aM (below_alloc HB.out (.cells #[.slice A20 1 c20] 40))
 clear HB
 have HB := HT
 clear HT
 go_wp2_with fail
 refine (tacticianref02_Equal.calls 20 _ _ [[iV 2]] _ _ [[iV 2]] true _ HZ.out LHZ.out HQ.out (Nat.le_refl _) (by decide +kernel)).mono ?_
 rintro e w21 ⟨rfl, hb21⟩
 replace hb21 := below_any hb21
 clear HQ
 have HZ_ := aM (Kd.C_below HZ.out hb21)
 clear HZ
 have HZ := HZ_
 clear HZ_
 have HOO_ := aM (Kd.C_below HOO.out hb21)
 clear HOO
 have HOO := HOO_
 clear HOO_
 have HT := aM (below_step HB.out hb21)
 clear HB hb21
 have HB := HT
 clear HT
 clear HZ LHZ
 go_wp2_with fail
 refine (rowLit2 1 2 (w21) (by first | rfl | (go_simp; done) | (go_simp; rfl))).mono ?_
 rintro e w22 ⟨A22, c22, rfl, hl22, hC22, hb22⟩
 have HOO_ := aM (Kd.C_below HOO.out hb22)
 clear HOO
 have HOO := HOO_
 clear HOO_
 have HT := aM (below_step HB.out hb22)
 clear HB
 have HB := HT
 clear HT
 have HC22 := aM hC22
 have HL22 := aM hl22
 clear hC22 hl22 hb22
 go_wp2_with fail
 refine (rowLit2 1 1 (w22) (by first | rfl | (go_simp; done) | (go_simp; rfl))).mono ?_
 rintro e w23 ⟨A23, c23, rfl, hl23, hC23, hb23⟩
 have HOO_ := aM (Kd.C_below HOO.out hb23)
 clear HOO
 have HOO := HOO_
 clear HOO_
 have HC22_ := aM (Kd.C_below HC22.out hb23)
 clear HC22
 have HC22 := HC22_
 clear HC22_
 have HT := aM (below_step HB.out hb23)
 clear HB
 have HB := HT
 clear HT
 have HC23 := aM hC23
 have HL23 := aM hl23
 clear hC23 hl23 hb23
 go_wp2_with fail
 refine (rowLit2 2 1 (w23) (by first | rfl | (go_simp; done) | (go_simp; rfl))).mono ?_
 rintro e w24 ⟨A24, c24, rfl, hl24, hC24, hb24⟩
 have HOO_ := aM (Kd.C_below HOO.out hb24)
 clear HOO
 have HOO := HOO_
 clear HOO_
 have HC22_ := aM (Kd.C_below HC22.out hb24)
 clear HC22
 have HC22 := HC22_
 clear HC22_
 have HC23_ := aM (Kd.C_below HC23.out hb24)
 clear HC23
 have HC23 := HC23_
 clear HC23_
 have HT := aM (below_step HB.out hb24)
 clear HB
 have HB := HT
 clear HT
 have HC24 := aM hC24
 have HL24 := aM hl24
 clear hC24 hl24 hb24
 have HOO_ := aM (Kd.C_below HOO.out (below_alloc (Below.refl _ _) (.cells #[.slice A22 2 c22, .slice A23 2 c23, .slice A24 2 c24] 40)))
 clear HOO
 have HOO := HOO_
 clear HOO_
 have HC22_ := aM (Kd.C_below HC22.out (below_alloc (Below.refl _ _) (.cells #[.slice A22 2 c22, .slice A23 2 c23, .slice A24 2 c24] 40)))
 clear HC22
 have HC22 := HC22_
 clear HC22_
 have HC23_ := aM (Kd.C_below HC23.out (below_alloc (Below.refl _ _) (.cells #[.slice A22 2 c22, .slice A23 2 c23, .slice A24 2 c24] 40)))
 clear HC23
 have HC23 := HC23_
 clear HC23_
 have HC24_ := aM (Kd.C_below HC24.out (below_alloc (Below.refl _ _) (.cells #[.slice A22 2 c22, .slice A23 2 c23, .slice A24 2 c24] 40)))
 clear HC24
 have HC24 := HC24_
 clear HC24_
 have HQ : Aside0 (Kd.C (Kd.slice 61 k61) (w24.alloc (.cells #[.slice A22 2 c22, .slice A23 2 c23, .slice A24 2 c24] 40)) _ 3 [[iV 1, iV 2], [iV 1, iV 1], [iV 2, iV 1]]) := ⟨C_lit rfl (blk_new _ _) (Reps.one (rowK HC22.out HL22.out) (Reps.one (rowK HC23.out HL23.out) (Reps.one (rowK HC24.out HL24.out) (Reps.none _ _)))) (show 3 ≤ 1000 by decide)⟩
 clear HC22 HL22
 clear HC23 HL23
 clear HC24 HL24
 have HT := aM (below_alloc HB.out (.cells #[.slice A22 2 c22, .slice A23 2 c23, .slice A24 2 c24] 40))
 clear HB
 have HB := HT
 clear HT
 go_wp2_with fail
 refine (tacticianref02_Equal.calls 20 _ _ [[iV 1, iV 2], [iV 1, iV 1], [iV 2, iV 1]] _ _ [[iV 1, iV 2], [iV 1, iV 1], [iV 2, iV 1]] true _ HOO.out LHOO.out HQ.out (Nat.le_refl _) (by decide +kernel)).mono ?_
 rintro e w25 ⟨rfl, hb25⟩
 replace hb25 := below_any hb25
 clear HQ
 have HOO_ := aM (Kd.C_below HOO.out hb25)
 clear HOO
 have HOO := HOO_
 clear HOO_
 have HT := aM (below_step HB.out hb25)
 clear HB hb25
 have HB := HT
 clear HT
 clear HOO LHOO
 go_wp2
 go_ret
 exact ⟨rfl, HB.out⟩
end
end Go.Proofs.YtmhobbdedmjmnaaGreatDoor.Q
end
section
namespace Go.Proofs.YtmhobbdedmjmnaaGreatDoor.Q
open Go.RowKit Go.Proofs.YtmhobbdedmjmnaaGreatDoorW.PrintWords Go.Proofs.YtmhobbdedmjmnaaGreatDoorW.PrintLast Go.Proofs.YtmhobbdedmjmnaaGreatDoorW.PrintMore
attribute [local go_sem] max2_int min2_int max_two min_two max_three min_three max_four min_four
set_option linter.unusedVariables false
set_option maxRecDepth 20000
set_option linter.unusedSimpArgs false
mutual
def lawS.j0 : Nat → ByteArray → List (List (S61)) → Bool → Option (Bool)
  | 0, _, _, _ => none
  | k + 1, x1, x7, x24 => if x24 = true then (lawS.l0 k x1 x7) else (lawS.j2 k x1 x7)
def lawS.j2 : Nat → ByteArray → List (List (S61)) → Option (Bool)
  | 0, _, _ => none
  | k + 1, x1, x7 => (rows_String.f x7).bind fun bt755 => ((tacticianref02_List.f k x7 ([] : List (List (S61)))).bind fun t757 => (if t757 = 0 then ((tacticianref02_String.f k x7).bind fun t758 => (if (t758.size : Int) > 20000 then (lawS.j3 k x1 bt755.1 bt755.2 2 t758) else (lawS.j3 k x1 bt755.1 bt755.2 t757 t758))) else (lawS.j3 k x1 bt755.1 bt755.2 t757 (⟨#[]⟩ : ByteArray))))
def lawS.j3 : Nat → ByteArray → ByteArray → Int → Int → ByteArray → Option (Bool)
  | 0, _, _, _, _, _ => none
  | k + 1, x1, x8, x9, x10, x11 => if x10 = 0 then (if x8.toList = x11.toList then (if x9 = 0 then (lawS.j4 k x1) else (some false)) else (some false)) else (if x8.toList = ([] : List UInt8) then (if x9 = x10 then (lawS.j4 k x1) else (some false)) else (some false))
def lawS.j4 : Nat → ByteArray → Option (Bool)
  | 0, _ => none
  | k + 1, x1 => if 0 ≤ (mn (x1.size : Int) 4000) then (if (mn (x1.size : Int) 4000) ≤ (x1.size : Int) then ((rows_Parse.f (x1.extract 0 ((mn (x1.size : Int) 4000) : Int).toNat)).bind fun bt759 => ((tacticianref02_Parse.f k (x1.extract 0 ((mn (x1.size : Int) 4000) : Int).toNat)).bind fun bt763 => (if bt763.2 = true then ((tacticianref02_Equal.f k bt759.1 bt763.1).bind fun t767 => (if t767 = true then (if bt759.2 = 0 then ((tacticianlaw02_awake.f).bind fun t768 => (some t768)) else (some false)) else (some false))) else (if (bt759.1.length : Int) = 0 then (if bt759.2 = 20 then ((tacticianlaw02_awake.f).bind fun t769 => (some t769)) else (some false)) else (some false))))) else (none)) else (none)
def lawS.l0 : Nat → ByteArray → List (List (S61)) → Option (Bool)
  | 0, _, _ => none
  | k + 1, x1, x7 => if (x7.length : Int) < 600 then (if 0 < (x7.length : Int) then (if x7.length < 5864062014805 then (lawS.l0 k x1 (x7 ++ [rd_L3 x7 0])) else (none)) else (none)) else (lawS.j2 k x1 x7)
end
def lawS.f (k : Nat) (l0 : List (List (S61))) (a1 : ByteArray) (a2 : Bool) : Option (Bool) := (tacticianlaw02_Cut.f k l0 60).bind fun t748 => (if a2 = true then (lawS.j0 k a1 t748 (decide ((t748.length : Int) > 0))) else (lawS.j0 k a1 t748 false))
set_option maxHeartbeats 8000000 in
set_option maxRecDepth 100000 in
theorem lawS.calls (k : Nat) (A0 : Option Addr) (c0 : Nat) (l0 : List (List (S61))) (a1 : ByteArray) (a2 : Bool) (r : Bool) (w : World) (hr0 : Kd.C (Kd.slice 61 k61) w A0 l0.length l0) (hc0 : l0.length ≤ c0) (hL_ : LaidE w) (hr_ : Aside0 (r = true)) (h : lawS.f k l0 a1 a2 = some r) :
  Calls Tryz.prog 12 #[.slice A0 l0.length c0, .string a1, .bool a2] w fun e w' => e = .returned (.bool r) ∧ Below w.heap.size w w' := by
 have HLD := aM hL_
 clear hL_
 have HR0 := aM hr0
 have HC0 := aM hc0
 clear hr0 hc0
 have HB := aM (Below.refl w.heap.size w)
 have H : ((tacticianlaw02_Cut.f k l0 60).bind fun t748 => (if a2 = true then (lawS.j0 k a1 t748 (decide ((t748.length : Int) > 0))) else (lawS.j0 k a1 t748 false))) = some r := h
 clear h
 replace H := Option.bind_eq_some_iff.mp H
 obtain ⟨t748, A40, H⟩ := H
 replace H : (if a2 = true then (lawS.j0 k a1 t748 (decide ((t748.length : Int) > 0))) else (lawS.j0 k a1 t748 false)) = some r := H
 have A4 := aM A40
 clear A40
 have HC5 := aM H
 clear H
 go_enter Tryz.func12, Tryz.ntmps12
 go_upto_region 2 with (first | ((with_reducible refine gate_callee (f := 14) rfl ?_); refine goesL_ (some 18) rfl rfl Tryz.func14 (by kernel_rfl) rfl #[.slice A0 l0.length c0, .int .i64 60] rfl (by (try simp only [List.map_toArray, List.map_cons, List.map_nil]); first | done | rfl | (simp only [List.length_drop, List.length_take]; rfl)) ?_; (with_reducible refine (tacticianlaw02_Cut.calls k _ _ l0 60 t748 _ ?side1 ?side2 A4.out).mono ?_); (case side1 => repeat (first | exact HR0.out | (with_reducible refine Kd.C_alloc ?_ _) | (with_reducible refine Kd.C_drewN ?_ _) | (with_reducible refine Kd.C_drew ?_))); (case side2 => exact HC0.out); rintro e w6 ⟨v749, rfl, ho0, hb⟩; refine ⟨_, rfl, ?_⟩; have n0_ := aM (Kd.N_lower (Kd.N_mono (ok' := fun k_ => True) (Kd.S_N (Kd.S_bound ho0)) (fun k_ hk_ => trivial)) (below_size (by repeat (first | (with_reducible first | exact HB.out | apply yA | apply yN | apply yD) | exact HB.out)))); have n1_ := aM (below_step (by repeat (first | (with_reducible first | exact HB.out | apply yA | apply yN | apply yD) | exact HB.out)) hb); clear HB; have HO750 := n0_; have HB := n1_; clear n0_ n1_; (try clear hb); (try clear hk); (try clear ho0)))
 (try simp only [Act.put, List.setIfInBounds_toArray, List.set_cons_zero, List.set_cons_succ])
 go_cut [24] (fun v24 wc => ∃ (kq : Nat) (x24_4 : Bool), v24 = .bool x24_4 ∧ Aside0 (lawS.j0 kq a1 t748 x24_4 = some r) ∧ Aside0 (kq ≤ k) ∧ Aside0 (Kd.N (Kd.slice 61 k61) 40 wc w.heap.size (fun _ => True) v749 t748) ∧ Aside0 (Below w.heap.size w wc))
 case first =>
  have H := HC5.out
  clear HC5
  by_cases c7 : a2 = true
  ·subst c7
   have H1 : (lawS.j0 k a1 t748 (decide ((t748.length : Int) > 0))) = some r := by rw [if_pos rfl] at H; exact H
   clear H
   have H := H1
   clear H1
   have H' := aM H
   clear H
   obtain ⟨Ao8, co8, eo8⟩ := Kd.N_slice HO750.out
   subst eo8
   go_wp2
   go_meet
   case rel => exact ⟨_, (decide ((t748.length : Int) > 0)), (by first | rfl | (simp; done) | (simp [*]; done)), H', ⟨by first | omega | exact Nat.le_refl _⟩, ⟨by (with_reducible repeat (first | apply Kd.N_alloc | apply Kd.N_drewN | apply Kd.N_drew)); exact HO750.out⟩, ⟨by repeat (first | (with_reducible first | exact HB.out | apply yA | apply yN | apply yD) | exact HB.out)⟩⟩
  ·replace c7 := Bool.eq_false_iff.mpr c7
   subst c7
   have H1 : (lawS.j0 k a1 t748 false) = some r := by rw [if_neg (show ¬ (false = true) by decide)] at H; exact H
   clear H
   have H := H1
   clear H1
   have H' := aM H
   clear H
   go_wp2
   go_meet
   case rel => exact ⟨_, (false), (by first | rfl | (simp; done) | (simp [*]; done)), H', ⟨by first | omega | exact Nat.le_refl _⟩, ⟨by (with_reducible repeat (first | apply Kd.N_alloc | apply Kd.N_drewN | apply Kd.N_drew)); exact HO750.out⟩, ⟨by repeat (first | (with_reducible first | exact HB.out | apply yA | apply yN | apply yD) | exact HB.out)⟩⟩
 case rest =>
  clear HC5
  obtain ⟨kq, x24_4, rfl, HA, HJ4, HO_7, HB⟩ := hcut
  cases kq with
  | zero => exact absurd HA.out (by simp [lawS.j0])
  | succ kj4 =>
   have H := HA.out
   clear HA
   simp only [lawS.j0] at H
   have HC9 := aM H
   clear H
   go_upto_if 24 with (fail)
   go_cut [7] (fun v7 wc => ∃ (kq : Nat) (x7_8 : List (List (S61))), Aside0 (lawS.j2 kq a1 x7_8 = some r) ∧ Aside0 (kq ≤ kj4) ∧ Aside0 (Kd.N (Kd.slice 61 k61) 40 wc w.heap.size (fun _ => True) v7 x7_8) ∧ Aside0 (Below w.heap.size w wc))
   case first =>
    have H := HC9.out
    clear HC9
    by_cases c10 : x24_4 = true
    ·subst c10
     have H1 : (lawS.l0 kj4 a1 t748) = some r := by rw [if_pos rfl] at H; exact H
     clear H
     have H := H1
     clear H1
     have H' := aM H
     clear H
     go_wp2
     go_loopg [7] kj4 (fun kq v7 w' => ∃ (x7_2 : List (List (S61))), Aside0 (lawS.l0 kq a1 x7_2 = some r) ∧ Aside0 (kq ≤ kj4) ∧ Aside0 (Kd.N (Kd.slice 61 k61) 40 w' w.heap.size (fun _ => True) v7 x7_2) ∧ Aside0 (Below w.heap.size w w'))
     case atStart => exact ⟨(t748), H', ⟨Nat.le_refl _⟩, ⟨by (with_reducible repeat (first | apply Kd.N_alloc | apply Kd.N_drewN | apply Kd.N_drew)); exact HO_7.out⟩, ⟨by repeat (first | (with_reducible first | exact HB.out | apply yA | apply yN | apply yD) | exact HB.out)⟩⟩
     case round =>
      clear H'
      try clear c10
      obtain ⟨x7_2, HA, HK2, HO_7, HB⟩ := hrel
      cases gk with
      | zero => exact absurd HA.out (by simp [lawS.l0])
      | succ k2 =>
       have H := HA.out
       clear HA
       simp only [lawS.l0] at H
       by_cases c11 : (x7_2.length : Int) < 600
       ·rw [if_pos c11] at H
        have c11b0 : decide ((x7_2.length : Int) < 600) = true := decide_eq_true c11
        have c11b1 : decide (x7_2.length < 600) = true := decide_eq_true (by omega)
        clear c11
        (first | rw [c11b0] | (simp only [i64_w, i32_w]; rw [c11b0]) | skip)
        by_cases c12 : 0 < (x7_2.length : Int)
        ·rw [if_pos c12] at H
         have c12b0 : decide (0 < (x7_2.length : Int)) = true := decide_eq_true c12
         have c12b1 : decide (0 < x7_2.length) = true := decide_eq_true (by omega)
         clear c12
         by_cases c13 : x7_2.length < 5864062014805
         ·rw [if_pos c13] at H
          have LMc13 := aM c13
          clear c13
          obtain ⟨y752, hy752⟩ : ∃ y_ : List (List (S61)), y_ = (x7_2 ++ [rd_L3 x7_2 0]) := ⟨_, rfl⟩
          replace H : (lawS.l0 k2 a1 y752) = some r := by first | (rw [hy752]; with_reducible exact H) | (have H2_ := (Option.bind_some _ _).symm.trans H; rw [hy752]; with_reducible exact H2_) | (have H2_ := (Option.bind_some _ _).symm.trans H; with_reducible exact H2_) | with_reducible exact H | (rw [hy752]; exact H) | exact H
          have Ny752 := aM hy752
          clear hy752
          have H' := aM H
          clear H
          obtain ⟨Ao14, co14, eo14⟩ := Kd.N_slice HO_7.out
          subst eo14
          have p751 : 0 ≤ (0 : Int) := (by omega)
          have q751 : 0 < (x7_2.length : Int) := of_decide_eq_true (by first | (with_reducible assumption) | assumption)
          obtain ⟨ad751, A751_0, c751_0, e751, hx751_0, hl751_0, hi751_0⟩ := at_L3 (Kd.N_reads' HO_7.out).2.2 0 p751 q751
          cases e751
          obtain ⟨ce751, hce751, hMe751, hcc751⟩ := Kd.N_get HO_7.out [] 0 p751 (by first | exact q751 | exact of_decide_eq_true (by first | (with_reducible assumption) | assumption) | (have e_ := (Kd.N_reads' HO_7.out).1; omega))
          obtain ⟨ua751_0, uc751_0, rfl, ul751_0, ge751_0⟩ := Kd.FK_slice_open hMe751
          have hv751_0 := hcc751 0 _ rfl
          rw [Nat.add_zero, show ((Kd.slice 61 k61)).sz = 1 from rfl, Nat.mul_one] at hv751_0
          replace hv751_0 := Option.some.inj (hv751_0.symm.trans hx751_0)
          injection hv751_0 with hva_ hvn_ hvc_
          rw [hva_] at ge751_0
          rw [hvc_] at ul751_0
          have HL751_0 := aM (show Kd.V k61 61 _ w.heap.size _ _ (rd_L3 x7_2 0) from Kd.V_mk ul751_0 ge751_0)
          clear hva_ hvn_ hvc_ ge751_0 ul751_0
          clear hcc751 hce751
          have qi751 : (0 < x7_2.length) = True := eq_true (by omega)
          (try rw [show ((0 : Int)).toNat = 0 from rfl] at hx751_0)
          (try rw [Addr.add_zero'] at hx751_0)
          have HR751_0 := aM hi751_0
          have HC751_0 := aM hl751_0
          clear hi751_0 hl751_0
          replace p751 := eq_true p751
          replace q751 := eq_true q751
          go_wp2_with (first | ((with_reducible refine gate_builtin (b := .append) (xs := #[.tmp 28, .tmp 32]) rfl ?_); (try (refine gate_guard (by rfl) ?_; dsimp only)); at_builtin; refine Kd.N_append (Kd.slice 61 k61) (w0 := w) w.heap.size rfl (.tmp 28) (.tmp 32) 22 40 (.slice none 0 0) 24 rfl Tryz.underlying22 info40 rfl (by decide) (by omega) (.slice (some ad751) x7_2.length co14) x7_2 (rd_L3 x7_2 0) [.slice A751_0 (rd_L3 x7_2 0).length c751_0] (fun _ => True) (fun k_ => ((fun _ => True)) k_ ∧ some k_ ≠ (.slice (some ad751) x7_2.length co14 : Value).ownBlock) rfl rfl ?aP (fun _ hk => hk) ?aF ?aO ?aB ?aS ?aL ?_; (case aP => exact (Kd.FK_slice_mk (Kd.V_reads' (Kd.V_mono (ok' := (fun k_ => ((fun _ => True)) k_ ∧ some k_ ≠ (.slice (some ad751) x7_2.length co14 : Value).ownBlock)) (HL751_0.out) (fun k_ hk => ⟨trivial, hk.2⟩))).2.1 (Kd.V_F (Kd.V_mono (ok' := (fun k_ => ((fun _ => True)) k_ ∧ some k_ ≠ (.slice (some ad751) x7_2.length co14 : Value).ownBlock)) (HL751_0.out) (fun k_ hk => ⟨trivial, hk.2⟩))))); (case aB => exact (by repeat (first | (with_reducible first | exact HB.out | apply yA | apply yN | apply yD) | exact HB.out))); (case aF => exact (fun _ _ => trivial)); (case aO => exact (by (with_reducible repeat (first | apply Kd.N_alloc | apply Kd.N_drewN | apply Kd.N_drew)); exact HO_7.out)); (case aS => exact (below_size (by repeat (first | (with_reducible first | exact HB.out | apply yA | apply yN | apply yD) | exact HB.out)))); (case aL => have := LMc13.out; omega); intro v753 w15 ho hb hg hat; rw [← Ny752.out] at ho; have n0_ := aM (Kd.V_afterv (ok := (fun _ => True)) (by (with_reducible repeat (first | apply Kd.V_alloc | apply Kd.V_drewN | apply Kd.V_drew)); exact HL751_0.out) hg hat); have n1_ := aM (hb); have n2_ := aM (ho); clear HL751_0; clear HB; clear HO_7; have HL751_0 := n0_; have HB := n1_; have HO754 := n2_; clear n0_ n1_ n2_; clear ho hb hg hat))
          go_roundg k2
          case measure => have := HJ4.out; have := HK2.out; omega
          case rel => exact ⟨(y752), H', ⟨by have := HJ4.out; have := HK2.out; omega⟩, ⟨by (with_reducible repeat (first | apply Kd.N_alloc | apply Kd.N_drewN | apply Kd.N_drew)); exact HO754.out⟩, ⟨by repeat (first | (with_reducible first | exact HB.out | apply yA | apply yN | apply yD) | exact HB.out)⟩⟩
         ·rw [if_neg c13] at H
          exact absurd H (by simp)
        ·rw [if_neg c12] at H
         exact absurd H (by simp)
       ·rw [if_neg c11] at H
        have c11b0 : decide ((x7_2.length : Int) < 600) = false := decide_eq_false c11
        have c11b1 : decide (x7_2.length < 600) = false := decide_eq_false (by omega)
        clear c11
        (first | rw [c11b0] | (simp only [i64_w, i32_w]; rw [c11b0]) | skip)
        have H' := aM H
        clear H
        obtain ⟨Ao16, co16, eo16⟩ := Kd.N_slice HO_7.out
        subst eo16
        go_wp2
        go_meet
        case rel => exact ⟨_, (x7_2), H', ⟨by have := HJ4.out; have := HK2.out; first | omega | exact Nat.le_refl _⟩, ⟨by (with_reducible repeat (first | apply Kd.N_alloc | apply Kd.N_drewN | apply Kd.N_drew)); exact HO_7.out⟩, ⟨by repeat (first | (with_reducible first | exact HB.out | apply yA | apply yN | apply yD) | exact HB.out)⟩⟩
    ·replace c10 := Bool.eq_false_iff.mpr c10
     subst c10
     have H1 : (lawS.j2 kj4 a1 t748) = some r := by rw [if_neg (show ¬ (false = true) by decide)] at H; exact H
     clear H
     have H := H1
     clear H1
     have H' := aM H
     clear H
     go_wp2
     go_meet
     case rel => exact ⟨_, (t748), H', ⟨by have := HJ4.out; first | omega | exact Nat.le_refl _⟩, ⟨by (with_reducible repeat (first | apply Kd.N_alloc | apply Kd.N_drewN | apply Kd.N_drew)); exact HO_7.out⟩, ⟨by repeat (first | (with_reducible first | exact HB.out | apply yA | apply yN | apply yD) | exact HB.out)⟩⟩
   case rest =>
    clear HC9
    obtain ⟨kq, x7_8, HA, HJ8, HO_7, HB⟩ := hcut
    cases kq with
    | zero => exact absurd HA.out (by simp [lawS.j2])
    | succ kj8 =>
     have H := HA.out
     clear HA
     simp only [lawS.j2] at H
     replace H := Option.bind_eq_some_iff.mp H
     obtain ⟨⟨t755, t756⟩, A170, H⟩ := H
     replace H : ((tacticianref02_List.f kj8 x7_8 ([] : List (List (S61)))).bind fun t757 => (if t757 = 0 then ((tacticianref02_String.f kj8 x7_8).bind fun t758 => (if (t758.size : Int) > 20000 then (lawS.j3 kj8 a1 t755 t756 2 t758) else (lawS.j3 kj8 a1 t755 t756 t757 t758))) else (lawS.j3 kj8 a1 t755 t756 t757 (⟨#[]⟩ : ByteArray)))) = some r := H
     have A17 := aM A170
     clear A170
     replace H := Option.bind_eq_some_iff.mp H
     obtain ⟨t757, A180, H⟩ := H
     replace H : (if t757 = 0 then ((tacticianref02_String.f kj8 x7_8).bind fun t758 => (if (t758.size : Int) > 20000 then (lawS.j3 kj8 a1 t755 t756 2 t758) else (lawS.j3 kj8 a1 t755 t756 t757 t758))) else (lawS.j3 kj8 a1 t755 t756 t757 (⟨#[]⟩ : ByteArray))) = some r := H
     have A18 := aM A180
     clear A180
     have HC19 := aM H
     clear H
     obtain ⟨Ao20, co20, eo20⟩ := Kd.N_slice HO_7.out
     subst eo20
     go_upto_if 42 with (first | ((with_reducible refine gate_callee (f := 48) rfl ?_); refine goesL_ (some 36) rfl rfl Tryz.func48 (by kernel_rfl) rfl #[.slice Ao20 x7_8.length co20] rfl (by (try simp only [List.map_toArray, List.map_cons, List.map_nil]); first | done | rfl | (simp only [List.length_drop, List.length_take]; rfl)) ?_; (with_reducible refine (rows_String.calls _ _ x7_8 t755 t756 _ ?side1 ?side2 ?side3 A17.out).mono ?_); (case side1 => repeat (first | exact (Kd.N_reads' HO_7.out).2.2 | (with_reducible refine Kd.C_alloc ?_ _) | (with_reducible refine Kd.C_drewN ?_ _) | (with_reducible refine Kd.C_drew ?_))); (case side2 => exact (Kd.N_reads' HO_7.out).2.1); (case side3 => exact Laid.below HLD.out.base (by repeat (first | (with_reducible first | exact HB.out | apply yA | apply yN | apply yD) | exact HB.out))); rintro e w21 ⟨rfl, hb⟩; refine ⟨_, rfl, ?_⟩; have n0_ := aM (Kd.N_below (by (with_reducible repeat (first | apply Kd.N_alloc | apply Kd.N_drewN | apply Kd.N_drew)); exact HO_7.out) hb); have n1_ := aM (below_step (by repeat (first | (with_reducible first | exact HB.out | apply yA | apply yN | apply yD) | exact HB.out)) hb); clear HO_7; clear HB; have HO_7 := n0_; have HB := n1_; clear n0_ n1_; (try clear hb); (try clear hk)) | ((with_reducible refine gate_callee (f := 17) rfl ?_); refine goesL_ (some 40) rfl rfl Tryz.func17 (by kernel_rfl) rfl #[.slice Ao20 x7_8.length co20, .slice none 0 0] rfl (by (try simp only [List.map_toArray, List.map_cons, List.map_nil]); first | done | rfl | (simp only [List.length_drop, List.length_take]; rfl)) ?_; (refine (tacticianref02_List.calls kj8 _ _ x7_8 _ _ ([] : List (List (S61))) t757 _ ?side1 ?side2 ?side3 ?side4 A18.out).mono ?_); (case side1 => repeat (first | exact (Kd.N_reads' HO_7.out).2.2 | (with_reducible refine Kd.C_alloc ?_ _) | (with_reducible refine Kd.C_drewN ?_ _) | (with_reducible refine Kd.C_drew ?_))); (case side2 => exact (Kd.N_reads' HO_7.out).2.1); (case side3 => exact Kd.C_nil _ _); (case side4 => exact Nat.le_refl _); rintro e w22 ⟨rfl, hb⟩; refine ⟨_, rfl, ?_⟩; have n0_ := aM (Kd.N_below (by (with_reducible repeat (first | apply Kd.N_alloc | apply Kd.N_drewN | apply Kd.N_drew)); exact HO_7.out) hb); have n1_ := aM (below_step (by repeat (first | (with_reducible first | exact HB.out | apply yA | apply yN | apply yD) | exact HB.out)) hb); clear HO_7; clear HB; have HO_7 := n0_; have HB := n1_; clear n0_ n1_; (try clear hb); (try clear hk)))
     (try simp only [Act.put, List.setIfInBounds_toArray, List.set_cons_zero, List.set_cons_succ])
     go_cut [10, 11] (fun v10 v11 wc => ∃ (kq : Nat) (x10_18 : Int) (x11_18 : ByteArray), v10 = .int .i64 x10_18 ∧ v11 = .string x11_18 ∧ Aside0 (lawS.j3 kq a1 t755 t756 x10_18 x11_18 = some r) ∧ Aside0 (kq ≤ kj8) ∧ Aside0 (Below w.heap.size w wc))
     case first =>
      have H := HC19.out
      clear HC19
      by_cases c23 : t757 = 0
      ·rw [if_pos c23] at H
       have c23b0 : (t757 == 0) = true := beq_iff_eq.mpr c23
       have c23b1 : (t757 != 0) = false := bne_eq_false_iff_eq.mpr c23
       clear c23
       (first | rw [c23b0] | (simp only [i64_w, i32_w]; rw [c23b0]) | skip)
       replace H := Option.bind_eq_some_iff.mp H
       obtain ⟨t758, A240, H⟩ := H
       replace H : (if (t758.size : Int) > 20000 then (lawS.j3 kj8 a1 t755 t756 2 t758) else (lawS.j3 kj8 a1 t755 t756 t757 t758)) = some r := H
       have A24 := aM A240
       clear A240
       by_cases c25 : (t758.size : Int) > 20000
       ·rw [if_pos c25] at H
        have c25b0 : decide (20000 < (t758.size : Int)) = true := decide_eq_true c25
        have c25b1 : decide (20000 < t758.size) = true := decide_eq_true (by omega)
        clear c25
        have H' := aM H
        clear H
        go_wp2_with (first | ((with_reducible refine gate_callee (f := 49) rfl ?_); refine goesL_ (some 44) rfl rfl Tryz.func49 (by kernel_rfl) rfl #[.slice Ao20 x7_8.length co20] rfl (by (try simp only [List.map_toArray, List.map_cons, List.map_nil]); first | done | rfl | (simp only [List.length_drop, List.length_take]; rfl)) ?_; (with_reducible refine (tacticianref02_String.calls kj8 _ _ x7_8 t758 _ ?side1 ?side2 A24.out).mono ?_); (case side1 => repeat (first | exact (Kd.N_reads' HO_7.out).2.2 | (with_reducible refine Kd.C_alloc ?_ _) | (with_reducible refine Kd.C_drewN ?_ _) | (with_reducible refine Kd.C_drew ?_))); (case side2 => exact (Kd.N_reads' HO_7.out).2.1); rintro e w26 ⟨rfl, hb⟩; refine ⟨_, rfl, ?_⟩; have n0_ := aM (Kd.N_below (by (with_reducible repeat (first | apply Kd.N_alloc | apply Kd.N_drewN | apply Kd.N_drew)); exact HO_7.out) hb); have n1_ := aM (below_step (by repeat (first | (with_reducible first | exact HB.out | apply yA | apply yN | apply yD) | exact HB.out)) hb); clear HO_7; clear HB; have HO_7 := n0_; have HB := n1_; clear n0_ n1_; (try clear hb); (try clear hk)))
        go_meet
        case rel => exact ⟨_, (2), (t758), (by first | rfl | (simp; done) | (simp [*]; done)), (by first | rfl | (simp; done) | (simp [*]; done)), H', ⟨by have := HJ4.out; have := HJ8.out; first | omega | exact Nat.le_refl _⟩, ⟨by repeat (first | (with_reducible first | exact HB.out | apply yA | apply yN | apply yD) | exact HB.out)⟩⟩
       ·rw [if_neg c25] at H
        have c25b0 : decide (20000 < (t758.size : Int)) = false := decide_eq_false c25
        have c25b1 : decide (20000 < t758.size) = false := decide_eq_false (by omega)
        clear c25
        have H' := aM H
        clear H
        go_wp2_with (first | ((with_reducible refine gate_callee (f := 49) rfl ?_); refine goesL_ (some 44) rfl rfl Tryz.func49 (by kernel_rfl) rfl #[.slice Ao20 x7_8.length co20] rfl (by (try simp only [List.map_toArray, List.map_cons, List.map_nil]); first | done | rfl | (simp only [List.length_drop, List.length_take]; rfl)) ?_; (with_reducible refine (tacticianref02_String.calls kj8 _ _ x7_8 t758 _ ?side1 ?side2 A24.out).mono ?_); (case side1 => repeat (first | exact (Kd.N_reads' HO_7.out).2.2 | (with_reducible refine Kd.C_alloc ?_ _) | (with_reducible refine Kd.C_drewN ?_ _) | (with_reducible refine Kd.C_drew ?_))); (case side2 => exact (Kd.N_reads' HO_7.out).2.1); rintro e w27 ⟨rfl, hb⟩; refine ⟨_, rfl, ?_⟩; have n0_ := aM (Kd.N_below (by (with_reducible repeat (first | apply Kd.N_alloc | apply Kd.N_drewN | apply Kd.N_drew)); exact HO_7.out) hb); have n1_ := aM (below_step (by repeat (first | (with_reducible first | exact HB.out | apply yA | apply yN | apply yD) | exact HB.out)) hb); clear HO_7; clear HB; have HO_7 := n0_; have HB := n1_; clear n0_ n1_; (try clear hb); (try clear hk)))
        go_meet
        case rel => exact ⟨_, (t757), (t758), (by first | rfl | (simp; done) | (simp [*]; done)), (by first | rfl | (simp; done) | (simp [*]; done)), H', ⟨by have := HJ4.out; have := HJ8.out; first | omega | exact Nat.le_refl _⟩, ⟨by repeat (first | (with_reducible first | exact HB.out | apply yA | apply yN | apply yD) | exact HB.out)⟩⟩
      ·rw [if_neg c23] at H
       have c23b0 : (t757 == 0) = false := beq_eq_false_iff_ne.mpr c23
       have c23b1 : (t757 != 0) = true := bne_iff_ne.mpr c23
       (first | rw [c23b0] | (simp only [i64_w, i32_w]; rw [c23b0]) | skip)
       have H' := aM H
       clear H
       go_wp2
       go_meet
       case rel => exact ⟨_, (t757), ((⟨#[]⟩ : ByteArray)), (by first | rfl | (simp; done) | (simp [*]; done)), (by first | rfl | (simp; done) | (simp [*]; done)), H', ⟨by have := HJ4.out; have := HJ8.out; first | omega | exact Nat.le_refl _⟩, ⟨by repeat (first | (with_reducible first | exact HB.out | apply yA | apply yN | apply yD) | exact HB.out)⟩⟩
     case rest =>
      clear HC19
      obtain ⟨kq, x10_18, x11_18, rfl, rfl, HA, HJ18, HB⟩ := hcut
      cases kq with
      | zero => exact absurd HA.out (by simp [lawS.j3])
      | succ kj18 =>
       have H := HA.out
       clear HA
       simp only [lawS.j3] at H
       have HC28 := aM H
       clear H
       go_upto_if 49 with (fail)
       go_cut [] (fun wc => ∃ (kq : Nat), Aside0 (lawS.j4 kq a1 = some r) ∧ Aside0 (kq ≤ kj18) ∧ Aside0 (Below w.heap.size w wc))
       case first =>
        have H := HC28.out
        clear HC28
        by_cases c29 : x10_18 = 0
        ·rw [if_pos c29] at H
         have c29b0 : (x10_18 == 0) = true := beq_iff_eq.mpr c29
         have c29b1 : (x10_18 != 0) = false := bne_eq_false_iff_eq.mpr c29
         clear c29
         (first | rw [c29b0] | (simp only [i64_w, i32_w]; rw [c29b0]) | skip)
         by_cases c30 : t755.toList = x11_18.toList
         ·rw [if_pos c30] at H
          have c30b0 : (t755.toList == x11_18.toList) = true := beq_iff_eq.mpr c30
          have c30b1 : (t755.toList != x11_18.toList) = false := bne_eq_false_iff_eq.mpr c30
          clear c30
          by_cases c31 : t756 = 0
          ·rw [if_pos c31] at H
           have c31b0 : (t756 == 0) = true := beq_iff_eq.mpr c31
           have c31b1 : (t756 != 0) = false := bne_eq_false_iff_eq.mpr c31
           clear c31
           have H' := aM H
           clear H
           go_wp2
           go_meet
           case rel => exact ⟨_, H', ⟨by have := HJ4.out; have := HJ8.out; have := HJ18.out; first | omega | exact Nat.le_refl _⟩, ⟨by repeat (first | (with_reducible first | exact HB.out | apply yA | apply yN | apply yD) | exact HB.out)⟩⟩
          ·rw [if_neg c31] at H
           have c31b0 : (t756 == 0) = false := beq_eq_false_iff_ne.mpr c31
           have c31b1 : (t756 != 0) = true := bne_iff_ne.mpr c31
           exact absurd ((Option.some.inj H).trans hr_.out) (by decide)
         ·rw [if_neg c30] at H
          have c30b0 : (t755.toList == x11_18.toList) = false := beq_eq_false_iff_ne.mpr c30
          have c30b1 : (t755.toList != x11_18.toList) = true := bne_iff_ne.mpr c30
          exact absurd ((Option.some.inj H).trans hr_.out) (by decide)
        ·rw [if_neg c29] at H
         have c29b0 : (x10_18 == 0) = false := beq_eq_false_iff_ne.mpr c29
         have c29b1 : (x10_18 != 0) = true := bne_iff_ne.mpr c29
         (first | rw [c29b0] | (simp only [i64_w, i32_w]; rw [c29b0]) | skip)
         by_cases c32 : t755.toList = ([] : List UInt8)
         ·rw [if_pos c32] at H
          have c32b0 : (t755.toList == ([] : List UInt8)) = true := beq_iff_eq.mpr c32
          have c32b1 : (t755.toList != ([] : List UInt8)) = false := bne_eq_false_iff_eq.mpr c32
          clear c32
          by_cases c33 : t756 = x10_18
          ·rw [if_pos c33] at H
           have c33b0 : (t756 == x10_18) = true := beq_iff_eq.mpr c33
           have c33b1 : (t756 != x10_18) = false := bne_eq_false_iff_eq.mpr c33
           clear c33
           have H' := aM H
           clear H
           go_wp2
           go_meet
           case rel => exact ⟨_, H', ⟨by have := HJ4.out; have := HJ8.out; have := HJ18.out; first | omega | exact Nat.le_refl _⟩, ⟨by repeat (first | (with_reducible first | exact HB.out | apply yA | apply yN | apply yD) | exact HB.out)⟩⟩
          ·rw [if_neg c33] at H
           have c33b0 : (t756 == x10_18) = false := beq_eq_false_iff_ne.mpr c33
           have c33b1 : (t756 != x10_18) = true := bne_iff_ne.mpr c33
           exact absurd ((Option.some.inj H).trans hr_.out) (by decide)
         ·rw [if_neg c32] at H
          have c32b0 : (t755.toList == ([] : List UInt8)) = false := beq_eq_false_iff_ne.mpr c32
          have c32b1 : (t755.toList != ([] : List UInt8)) = true := bne_iff_ne.mpr c32
          exact absurd ((Option.some.inj H).trans hr_.out) (by decide)
       case rest =>
        clear HC28
        obtain ⟨kq, HA, HJ27, HB⟩ := hcut
        cases kq with
        | zero => exact absurd HA.out (by simp [lawS.j4])
        | succ kj27 =>
         have H := HA.out
         clear HA
         simp only [lawS.j4] at H
         obtain ⟨ji34, hji34⟩ : ∃ j_ : Int, (mn (a1.size : Int) 4000) = j_ := ⟨_, rfl⟩
         replace H : (if 0 ≤ (ji34) then (if (ji34) ≤ (a1.size : Int) then ((rows_Parse.f (a1.extract 0 ((ji34) : Int).toNat)).bind fun bt759 => ((tacticianref02_Parse.f kj27 (a1.extract 0 ((ji34) : Int).toNat)).bind fun bt763 => (if bt763.2 = true then ((tacticianref02_Equal.f kj27 bt759.1 bt763.1).bind fun t767 => (if t767 = true then (if bt759.2 = 0 then ((tacticianlaw02_awake.f).bind fun t768 => (some t768)) else (some false)) else (some false))) else (if (bt759.1.length : Int) = 0 then (if bt759.2 = 20 then ((tacticianlaw02_awake.f).bind fun t769 => (some t769)) else (some false)) else (some false))))) else (none)) else (none)) = some r := by first | (rw [hji34] at H; exact H) | (simp only [hji34] at H ⊢; exact H)
         have hji34_ : (if 4000 < (a1.size : Int) then 4000 else (a1.size : Int)) = ji34 := hji34
         by_cases c35 : 0 ≤ (ji34)
         ·rw [if_pos c35] at H
          have c35b0 := eq_true c35
          have c35b1 : decide (0 ≤ (ji34)) = true := decide_eq_true c35
          clear c35
          by_cases c36 : (ji34) ≤ (a1.size : Int)
          ·rw [if_pos c36] at H
           have c36b0 := eq_true c36
           have c36b1 : decide ((ji34) ≤ (a1.size : Int)) = true := decide_eq_true c36
           clear c36
           replace H := Option.bind_eq_some_iff.mp H
           obtain ⟨⟨t759, t760⟩, A370, H⟩ := H
           replace H : ((tacticianref02_Parse.f kj27 (a1.extract 0 ((ji34) : Int).toNat)).bind fun bt763 => (if bt763.2 = true then ((tacticianref02_Equal.f kj27 t759 bt763.1).bind fun t767 => (if t767 = true then (if t760 = 0 then ((tacticianlaw02_awake.f).bind fun t768 => (some t768)) else (some false)) else (some false))) else (if (t759.length : Int) = 0 then (if t760 = 20 then ((tacticianlaw02_awake.f).bind fun t769 => (some t769)) else (some false)) else (some false)))) = some r := H
           have A37 := aM A370
           clear A370
           replace H := Option.bind_eq_some_iff.mp H
           obtain ⟨⟨t763, t764⟩, A380, H⟩ := H
           replace H : (if t764 = true then ((tacticianref02_Equal.f kj27 t759 t763).bind fun t767 => (if t767 = true then (if t760 = 0 then ((tacticianlaw02_awake.f).bind fun t768 => (some t768)) else (some false)) else (some false))) else (if (t759.length : Int) = 0 then (if t760 = 20 then ((tacticianlaw02_awake.f).bind fun t769 => (some t769)) else (some false)) else (some false))) = some r := H
           have A38 := aM A380
           clear A380
           by_cases c39 : t764 = true
           ·subst c39
            have H1 : ((tacticianref02_Equal.f kj27 t759 t763).bind fun t767 => (if t767 = true then (if t760 = 0 then ((tacticianlaw02_awake.f).bind fun t768 => (some t768)) else (some false)) else (some false))) = some r := by rw [if_pos rfl] at H; exact H
            clear H
            have H := H1
            clear H1
            replace H := Option.bind_eq_some_iff.mp H
            obtain ⟨t767, A400, H⟩ := H
            replace H : (if t767 = true then (if t760 = 0 then ((tacticianlaw02_awake.f).bind fun t768 => (some t768)) else (some false)) else (some false)) = some r := H
            have A40 := aM A400
            clear A400
            by_cases c41 : t767 = true
            ·subst c41
             have H1 : (if t760 = 0 then ((tacticianlaw02_awake.f).bind fun t768 => (some t768)) else (some false)) = some r := by rw [if_pos rfl] at H; exact H
             clear H
             have H := H1
             clear H1
             by_cases c42 : t760 = 0
             ·rw [if_pos c42] at H
              have c42b0 : (t760 == 0) = true := beq_iff_eq.mpr c42
              have c42b1 : (t760 != 0) = false := bne_eq_false_iff_eq.mpr c42
              clear c42
              replace H := Option.bind_eq_some_iff.mp H
              obtain ⟨t768, A430, H⟩ := H
              replace H : (some t768) = some r := H
              have A43 := aM A430
              clear A430
              obtain rfl := Option.some.inj H
              go_wp2_with (first | ((with_reducible refine gate_callee (f := 50) rfl ?_); refine goesL_ (some 71) rfl rfl Tryz.func50 (by kernel_rfl) rfl #[.string (a1.extract 0 ((ji34) : Int).toNat)] rfl (by (try simp only [List.map_toArray, List.map_cons, List.map_nil]); first | done | (simp only [hji34]; rfl) | rfl | (simp only [List.length_drop, List.length_take]; rfl)) ?_; (with_reducible refine (rows_Parse.calls (a1.extract 0 ((ji34) : Int).toNat) t759 t760 _ ?side1 A37.out).mono ?_); (case side1 => exact LaidE.below HLD.out (by repeat (first | (with_reducible first | exact HB.out | apply yA | apply yN | apply yD) | exact HB.out))); rintro e w44 ⟨v761, rfl, ho0, hb⟩; refine ⟨_, rfl, ?_⟩; have n0_ := aM (Kd.N_lower (Kd.N_mono (ok' := fun k_ => True) (Kd.S_N (Kd.S_bound ho0)) (fun k_ hk_ => trivial)) (below_size (by repeat (first | (with_reducible first | exact HB.out | apply yA | apply yN | apply yD) | exact HB.out)))); have n1_ := aM (below_step (by repeat (first | (with_reducible first | exact HB.out | apply yA | apply yN | apply yD) | exact HB.out)) hb); clear HB; have HO762 := n0_; have HB := n1_; clear n0_ n1_; (try clear hb); (try clear hk); (try clear ho0)) | ((with_reducible refine gate_callee (f := 51) rfl ?_); refine goesL_ (some 76) rfl rfl Tryz.func51 (by kernel_rfl) rfl #[.string (a1.extract 0 ((ji34) : Int).toNat)] rfl (by (try simp only [List.map_toArray, List.map_cons, List.map_nil]); first | done | (simp only [hji34]; rfl) | rfl | (simp only [List.length_drop, List.length_take]; rfl)) ?_; (with_reducible refine (tacticianref02_Parse.calls kj27 (a1.extract 0 ((ji34) : Int).toNat) t763 true _ A38.out).mono ?_); rintro e w45 ⟨v765, rfl, ho0, hb⟩; refine ⟨_, rfl, ?_⟩; have n0_ := aM (Kd.N_elder' (by (with_reducible repeat (first | apply Kd.N_alloc | apply Kd.N_drewN | apply Kd.N_drew)); exact HO762.out) (Kd.N_base (Kd.S_N ho0)) hb); have n1_ := aM (Kd.N_lower (Kd.N_mono (ok' := fun k_ => some k_ ≠ (v761 : Value).ownBlock) (Kd.S_N (Kd.S_bound ho0)) (fun k_ hk_ => (Kd.fresh' (Kd.N_lt (by (with_reducible repeat (first | apply Kd.N_alloc | apply Kd.N_drewN | apply Kd.N_drew)); exact HO762.out)) k_ hk_.2.1))) (below_size (by repeat (first | (with_reducible first | exact HB.out | apply yA | apply yN | apply yD) | exact HB.out)))); have n2_ := aM (below_step (by repeat (first | (with_reducible first | exact HB.out | apply yA | apply yN | apply yD) | exact HB.out)) hb); clear HO762; clear HB; have HO762 := n0_; have HO766 := n1_; have HB := n2_; clear n0_ n1_ n2_; (try clear hb); (try clear hk); (try clear ho0); obtain ⟨Ao46, co46, eo46⟩ := Kd.N_slice HO762.out; subst eo46; obtain ⟨Ao47, co47, eo47⟩ := Kd.N_slice HO766.out; subst eo47) | ((with_reducible refine gate_callee (f := 19) rfl ?_); refine goesL_ (some 93) rfl rfl Tryz.func19 (by kernel_rfl) rfl #[.slice Ao46 t759.length co46, .slice Ao47 t763.length co47] rfl (by (try simp only [List.map_toArray, List.map_cons, List.map_nil]); first | done | rfl | (simp only [List.length_drop, List.length_take]; rfl)) ?_; (with_reducible refine (tacticianref02_Equal.calls kj27 _ _ t759 _ _ t763 true _ ?side1 ?side2 ?side3 ?side4 A40.out).mono ?_); (case side1 => repeat (first | exact (Kd.N_reads' HO762.out).2.2 | (with_reducible refine Kd.C_alloc ?_ _) | (with_reducible refine Kd.C_drewN ?_ _) | (with_reducible refine Kd.C_drew ?_))); (case side2 => exact (Kd.N_reads' HO762.out).2.1); (case side3 => repeat (first | exact (Kd.N_reads' HO766.out).2.2 | (with_reducible refine Kd.C_alloc ?_ _) | (with_reducible refine Kd.C_drewN ?_ _) | (with_reducible refine Kd.C_drew ?_))); (case side4 => exact (Kd.N_reads' HO766.out).2.1); rintro e w48 ⟨rfl, hb⟩; refine ⟨_, rfl, ?_⟩; have n0_ := aM (Kd.N_below (by (with_reducible repeat (first | apply Kd.N_alloc | apply Kd.N_drewN | apply Kd.N_drew)); exact HO762.out) hb); have n1_ := aM (Kd.N_below (by (with_reducible repeat (first | apply Kd.N_alloc | apply Kd.N_drewN | apply Kd.N_drew)); exact HO766.out) hb); have n2_ := aM (below_step (by repeat (first | (with_reducible first | exact HB.out | apply yA | apply yN | apply yD) | exact HB.out)) hb); clear HO762; clear HO766; clear HB; have HO762 := n0_; have HO766 := n1_; have HB := n2_; clear n0_ n1_ n2_; (try clear hb); (try clear hk)) | (go_at_call 18; (with_reducible refine (tacticianlaw02_awake.calls  t768 _ ?side1 A43.out).mono ?_); (case side1 => exact Laid.below HLD.out.base (by repeat (first | (with_reducible first | exact HB.out | apply yA | apply yN | apply yD) | exact HB.out))); rintro e w49 ⟨rfl, hb⟩; have n0_ := aM (Kd.N_below (by (with_reducible repeat (first | apply Kd.N_alloc | apply Kd.N_drewN | apply Kd.N_drew)); exact HO762.out) hb); have n1_ := aM (Kd.N_below (by (with_reducible repeat (first | apply Kd.N_alloc | apply Kd.N_drewN | apply Kd.N_drew)); exact HO766.out) hb); have n2_ := aM (below_step (by repeat (first | (with_reducible first | exact HB.out | apply yA | apply yN | apply yD) | exact HB.out)) hb); clear HO762; clear HO766; clear HB; have HO762 := n0_; have HO766 := n1_; have HB := n2_; clear n0_ n1_ n2_; (try clear hb); (try clear hk)))
              go_ret
              exact ⟨by first | rfl | (simp [errW_none, errW_some] <;> rfl) | (simp only [← hji34]; first | rfl | (simp [errW_none, errW_some] <;> rfl)) | (simp [*, errW_none, errW_some] <;> rfl), by repeat (first | (with_reducible first | exact HB.out | apply yA | apply yN | apply yD) | exact HB.out)⟩
             ·rw [if_neg c42] at H
              have c42b0 : (t760 == 0) = false := beq_eq_false_iff_ne.mpr c42
              have c42b1 : (t760 != 0) = true := bne_iff_ne.mpr c42
              exact absurd ((Option.some.inj H).trans hr_.out) (by decide)
            ·replace c41 := Bool.eq_false_iff.mpr c41
             subst c41
             have H1 : (some false) = some r := by rw [if_neg (show ¬ (false = true) by decide)] at H; exact H
             clear H
             have H := H1
             clear H1
             exact absurd ((Option.some.inj H).trans hr_.out) (by decide)
           ·replace c39 := Bool.eq_false_iff.mpr c39
            subst c39
            have H1 : (if (t759.length : Int) = 0 then (if t760 = 20 then ((tacticianlaw02_awake.f).bind fun t769 => (some t769)) else (some false)) else (some false)) = some r := by rw [if_neg (show ¬ (false = true) by decide)] at H; exact H
            clear H
            have H := H1
            clear H1
            by_cases c50 : (t759.length : Int) = 0
            ·rw [if_pos c50] at H
             have c50b0 : ((t759.length : Int) == 0) = true := beq_iff_eq.mpr c50
             have c50b1 : ((t759.length : Int) != 0) = false := bne_eq_false_iff_eq.mpr c50
             clear c50
             by_cases c51 : t760 = 20
             ·rw [if_pos c51] at H
              have c51b0 : (t760 == 20) = true := beq_iff_eq.mpr c51
              have c51b1 : (t760 != 20) = false := bne_eq_false_iff_eq.mpr c51
              clear c51
              replace H := Option.bind_eq_some_iff.mp H
              obtain ⟨t769, A520, H⟩ := H
              replace H : (some t769) = some r := H
              have A52 := aM A520
              clear A520
              obtain rfl := Option.some.inj H
              go_wp2_with (first | ((with_reducible refine gate_callee (f := 50) rfl ?_); refine goesL_ (some 71) rfl rfl Tryz.func50 (by kernel_rfl) rfl #[.string (a1.extract 0 ((ji34) : Int).toNat)] rfl (by (try simp only [List.map_toArray, List.map_cons, List.map_nil]); first | done | (simp only [hji34]; rfl) | rfl | (simp only [List.length_drop, List.length_take]; rfl)) ?_; (with_reducible refine (rows_Parse.calls (a1.extract 0 ((ji34) : Int).toNat) t759 t760 _ ?side1 A37.out).mono ?_); (case side1 => exact LaidE.below HLD.out (by repeat (first | (with_reducible first | exact HB.out | apply yA | apply yN | apply yD) | exact HB.out))); rintro e w53 ⟨v761, rfl, ho0, hb⟩; refine ⟨_, rfl, ?_⟩; have n0_ := aM (Kd.N_lower (Kd.N_mono (ok' := fun k_ => True) (Kd.S_N (Kd.S_bound ho0)) (fun k_ hk_ => trivial)) (below_size (by repeat (first | (with_reducible first | exact HB.out | apply yA | apply yN | apply yD) | exact HB.out)))); have n1_ := aM (below_step (by repeat (first | (with_reducible first | exact HB.out | apply yA | apply yN | apply yD) | exact HB.out)) hb); clear HB; have HO762 := n0_; have HB := n1_; clear n0_ n1_; (try clear hb); (try clear hk); (try clear ho0)) | ((with_reducible refine gate_callee (f := 51) rfl ?_); refine goesL_ (some 76) rfl rfl Tryz.func51 (by kernel_rfl) rfl #[.string (a1.extract 0 ((ji34) : Int).toNat)] rfl (by (try simp only [List.map_toArray, List.map_cons, List.map_nil]); first | done | (simp only [hji34]; rfl) | rfl | (simp only [List.length_drop, List.length_take]; rfl)) ?_; (with_reducible refine (tacticianref02_Parse.calls kj27 (a1.extract 0 ((ji34) : Int).toNat) t763 false _ A38.out).mono ?_); rintro e w54 ⟨v765, rfl, ho0, hb⟩; refine ⟨_, rfl, ?_⟩; have n0_ := aM (Kd.N_elder' (by (with_reducible repeat (first | apply Kd.N_alloc | apply Kd.N_drewN | apply Kd.N_drew)); exact HO762.out) (Kd.N_base (Kd.S_N ho0)) hb); have n1_ := aM (Kd.N_lower (Kd.N_mono (ok' := fun k_ => some k_ ≠ (v761 : Value).ownBlock) (Kd.S_N (Kd.S_bound ho0)) (fun k_ hk_ => (Kd.fresh' (Kd.N_lt (by (with_reducible repeat (first | apply Kd.N_alloc | apply Kd.N_drewN | apply Kd.N_drew)); exact HO762.out)) k_ hk_.2.1))) (below_size (by repeat (first | (with_reducible first | exact HB.out | apply yA | apply yN | apply yD) | exact HB.out)))); have n2_ := aM (below_step (by repeat (first | (with_reducible first | exact HB.out | apply yA | apply yN | apply yD) | exact HB.out)) hb); clear HO762; clear HB; have HO762 := n0_; have HO766 := n1_; have HB := n2_; clear n0_ n1_ n2_; (try clear hb); (try clear hk); (try clear ho0); obtain ⟨Ao55, co55, eo55⟩ := Kd.N_slice HO762.out; subst eo55) | (go_at_call 18; (with_reducible refine (tacticianlaw02_awake.calls  t769 _ ?side1 A52.out).mono ?_); (case side1 => exact Laid.below HLD.out.base (by repeat (first | (with_reducible first | exact HB.out | apply yA | apply yN | apply yD) | exact HB.out))); rintro e w56 ⟨rfl, hb⟩; have n0_ := aM (Kd.N_below (by (with_reducible repeat (first | apply Kd.N_alloc | apply Kd.N_drewN | apply Kd.N_drew)); exact HO762.out) hb); have n1_ := aM (Kd.N_below (by (with_reducible repeat (first | apply Kd.N_alloc | apply Kd.N_drewN | apply Kd.N_drew)); exact HO766.out) hb); have n2_ := aM (below_step (by repeat (first | (with_reducible first | exact HB.out | apply yA | apply yN | apply yD) | exact HB.out)) hb); clear HO762; clear HO766; clear HB; have HO762 := n0_; have HO766 := n1_; have HB := n2_; clear n0_ n1_ n2_; (try clear hb); (try clear hk)))
              go_ret
              exact ⟨by first | rfl | (simp [errW_none, errW_some] <;> rfl) | (simp only [← hji34]; first | rfl | (simp [errW_none, errW_some] <;> rfl)) | (simp [*, errW_none, errW_some] <;> rfl), by repeat (first | (with_reducible first | exact HB.out | apply yA | apply yN | apply yD) | exact HB.out)⟩
             ·rw [if_neg c51] at H
              have c51b0 : (t760 == 20) = false := beq_eq_false_iff_ne.mpr c51
              have c51b1 : (t760 != 20) = true := bne_iff_ne.mpr c51
              exact absurd ((Option.some.inj H).trans hr_.out) (by decide)
            ·rw [if_neg c50] at H
             have c50b0 : ((t759.length : Int) == 0) = false := beq_eq_false_iff_ne.mpr c50
             have c50b1 : ((t759.length : Int) != 0) = true := bne_iff_ne.mpr c50
             have c50b2 : ¬ (t759 = []) := fun h_ => c50 (by rw [h_]; rfl)
             exact absurd ((Option.some.inj H).trans hr_.out) (by decide)
          ·rw [if_neg c36] at H
           exact absurd H (by simp)
         ·rw [if_neg c35] at H
          exact absurd H (by simp)
end Go.Proofs.YtmhobbdedmjmnaaGreatDoor.Q
end
section
namespace Go.Proofs.YtmhobbdedmjmnaaGreatDoor
open Go.RowKit Go.Proofs.YtmhobbdedmjmnaaGreatDoor.Q Go.Proofs.YtmhobbdedmjmnaaGreatDoorW.PrintWords Go.Proofs.YtmhobbdedmjmnaaGreatDoorW.PrintLast Go.Proofs.YtmhobbdedmjmnaaGreatDoorW.PrintMore
theorem strings_j4 (s : ByteArray) (k : Nat) (hk : 200000 ≤ k) : lawS.j4 (k + 1) s = some true := by
  have hm := mn_leW (s.size : Int) 4000 (by omega) (by omega)
  rw [lawS.j4, if_pos hm.1, if_pos hm.2.1]
  have hz : (s.extract 0 (mn (s.size : Int) 4000).toNat).size ≤ 4000 := by rw [ByteArray.size_extract]; omega
  generalize s.extract 0 (mn (s.size : Int) 4000).toNat = t at hz ⊢
  rw [rowsParse t (by omega), refParse t (by omega) k (by omega), Option.bind_some, Option.bind_some]
  have haw : tacticianlaw02_awake.f = some true := rfl
  cases e : readP (t.size + 1) t [] with
  | none =>
    show (if false = true then _ else if ((0 : Nat) : Int) = 0 then (if (20 : Int) = 20 then (tacticianlaw02_awake.f).bind fun y => some y else some false) else some false) = some true
    rw [if_neg (by decide), if_pos (by decide), if_pos rfl, haw, Option.bind_some]
  | some L =>
    obtain ⟨l, e1, hok, _⟩ := readP_sound _ _ _ _ e
    rw [List.nil_append] at e1
    subst e1
    have h1 := smallE_read hok
    by_cases hl : largeR L = true
    · rw [if_pos hl] at h1
      have e2 : endP (some L) = ([], 20) := by unfold endP; dsimp only; rw [h1, if_neg (by decide)]
      have e3 : endF (some L) = ([], false) := by unfold endF; dsimp only; rw [if_neg (by rw [hl]; decide)]
      rw [e2, e3]
      dsimp only
      rw [if_neg (by decide), if_pos (by decide), if_pos rfl, haw, Option.bind_some]
    · rw [if_neg hl] at h1
      have hl' : largeR L = false := by simpa using hl
      have e2 : endP (some L) = (L, 0) := by unfold endP; dsimp only; rw [if_pos h1]
      have e3 : endF (some L) = (L, true) := by unfold endF; dsimp only; rw [if_pos hl']
      have h2 := (rowsOk_read hok hl').1
      rw [e2, e3]
      dsimp only
      rw [if_pos rfl, refEqual2 L L h2 h2 k (by omega), Option.bind_some, if_pos (decide_eq_true rfl), if_pos rfl, haw, Option.bind_some]
theorem smallE_zero {L : List (List V)} (h : smallE [L] = 0) : largeR L = false ∧ wrongR L = false := by
  unfold smallE at h
  simp only [List.any_cons, List.any_nil, Bool.or_false] at h
  cases h1 : largeR L with
  | true => rw [h1, if_pos rfl] at h; exact absurd h (by decide)
  | false =>
    cases h2 : wrongR L with
    | true => rw [h1, h2, if_neg (by decide), if_pos rfl] at h; exact absurd h (by decide)
    | false => exact ⟨rfl, rfl⟩
theorem okRR_small {L : List (List V)} (hL : RowsOk 100000 L) (h : smallE [L] = 0) : okRR L = true := by
  obtain ⟨h1, h2⟩ := smallE_zero h
  refine okRR_mk (by have := hL.1; omega) fun r hr => okRow_mk (by have := (hL.2 r hr).1; omega) fun v hv => ?_
  unfold wrongR at h2
  rw [List.any_eq_false] at h2
  have h3 := h2 r hr
  rw [Bool.not_eq_true, List.any_eq_false] at h3
  have h4 := h3 v hv
  have h5 : isV v = true := by
    cases h6 : isV v with
    | true => rfl
    | false => rw [h6] at h4; exact absurd rfl h4
  unfold OkV okV
  rw [Bool.and_eq_true]
  exact ⟨h5, ((hL.2 r hr).2 v hv).2⟩
theorem empty_toList : (⟨#[]⟩ : ByteArray).toList = ([] : List UInt8) := by rw [ByteArray.toList_eq]
theorem strings_j2 (s : ByteArray) (L : List (List V)) (hL : RowsOk 100000 L) (k : Nat) (hk : 1000000 ≤ k) : lawS.j2 (k + 1) s L = some true := by
  obtain ⟨k, rfl⟩ : ∃ m, k = m + 2 := ⟨k - 2, by omega⟩
  have hj : ∀ (x y : ByteArray) (e : Int), e ≠ 0 → x = ⟨#[]⟩ → lawS.j3 (k + 2) s x e e y = some true := fun x y e he hx => by
    rw [lawS.j3, if_neg he, hx, if_pos empty_toList, if_pos rfl]
    exact strings_j4 s k (by omega)
  rw [lawS.j2]
  have hlist : tacticianref02_List.f (k + 2) L [] = some (smallE [L]) := by rw [refList L [] hL (rowsOk_nil _) (k + 2) (by omega), smallE_nil]
  unfold rows_String.f
  by_cases h : smallE [L] = 0
  · have hok := okRR_small hL h
    rw [if_pos h, if_pos hok, hlist]
    have hs := refString L hL.1 (okRR_spec hok).2 (k + 2) (by omega)
    have hz : (ofL (strR L)).size = (strR L).length := ofL_size _
    by_cases h2 : (strR L).length ≤ 20000
    · rw [if_pos h2, Option.bind_some, Option.bind_some, if_pos h, hs, Option.bind_some, if_neg (by omega), h]
      rw [lawS.j3, if_pos rfl, if_pos rfl, if_pos rfl]
      exact strings_j4 s k (by omega)
    · rw [if_neg h2, Option.bind_some, Option.bind_some, if_pos h, hs, Option.bind_some, if_pos (by omega)]
      exact hj _ _ 2 (by decide) rfl
  · rw [if_neg h, hlist, Option.bind_some, Option.bind_some, if_neg h]
    exact hj _ _ _ h rfl
theorem strings_l0 (s : ByteArray) : ∀ (d : Nat) (L : List (List V)) (k : Nat), L.length + d = 600 ∨ (d = 0 ∧ 600 ≤ L.length) → 0 < L.length → RowsOk 100000 L → 1000100 + d ≤ k → lawS.l0 k s L = some true
  | 0, L, k, hd, h0, hL, hk => by
    obtain ⟨k, rfl⟩ : ∃ m, k = m + 2 := ⟨k - 2, by omega⟩
    rw [lawS.l0, if_neg (by omega)]
    exact strings_j2 s L hL k (by omega)
  | d + 1, L, k, hd, h0, hL, hk => by
    obtain ⟨k, rfl⟩ : ∃ m, k = m + 1 := ⟨k - 1, by omega⟩
    have e : rd_L3 L 0 = L[0] := rdL_at L 0 h0
    rw [lawS.l0, if_pos (by omega), if_pos (by omega), if_pos (by omega), e]
    refine strings_l0 s d _ k (by rw [List.length_append, List.length_singleton]; omega) (by rw [List.length_append, List.length_singleton]; omega) ⟨by rw [List.length_append, List.length_singleton]; omega, fun r hr => ?_⟩ (by omega)
    rcases List.mem_append.1 hr with h | h
    · exact hL.2 r h
    · rw [List.mem_singleton.1 h]; exact hL.2 _ (List.getElem_mem h0)
theorem pure_RowsStrings : ∀ (l0 : (List (List V))) (a1 : ByteArray) (a2 : Bool), argRows l0 → (a1.size ≤ 140737488351232) → ∃ k, Q.lawS.f k (l0) (a1) (a2) = some true := by
  intro l0 s b h0 _
  refine ⟨1001003, ?_⟩
  have hL : RowsOk 60 (cutRows 60 l0) := argRows_ok h0
  have hL2 := hL.grow (show 60 ≤ 100000 by omega)
  unfold lawS.f
  rw [show (60 : Int) = ((60 : Nat) : Int) from rfl, cutRows_at l0 60 1001003 (by omega) (by omega), Option.bind_some]
  have hf : lawS.j0 1001003 s (cutRows 60 l0) false = some true := by
    rw [lawS.j0, if_neg (by decide)]
    exact strings_j2 s _ hL2 1001001 (by omega)
  cases b with
  | false => rw [if_neg (by decide)]; exact hf
  | true =>
    rw [if_pos rfl]
    by_cases hp : 0 < (cutRows 60 l0).length
    · rw [decide_eq_true (show ((cutRows 60 l0).length : Int) > 0 by omega), lawS.j0, if_pos rfl]
      have := hL.1
      exact strings_l0 s (600 - (cutRows 60 l0).length) _ _ (by omega) hp hL2 (by omega)
    · rw [decide_eq_false (show ¬ ((cutRows 60 l0).length : Int) > 0 by omega)]
      exact hf
variable {α : Type}
def Opens (P : Program) (t : TypeId) (d : Kd α) (ok : α → Prop) : Prop :=
  ∀ (H : Type) (enc : TypeId × Value → H) (W : World) (base : Nat) (spare : Nat → Bool) (held : Bool) (fuel : Nat) (cs : List Value) (x : DataW H × List MemPlace),
    DataW.trod enc P W base spare held fuel t cs = some x → ∃ a, d.K W a cs ∧ (((DataW.weights P t x.1).all (· ≤ reachBytes)) = true → ok a)
theorem Opens.int {P : Program} {t : TypeId} {k : IntKind} (ht : P.underlying t = some (.int k)) : Opens P t (Kd.int k) (fun a => (Lit.int k a).wf = true) := by
  intro H enc W base spare held fuel cs x h
  obtain ⟨a, e0, rfl, wa⟩ := DataW.trod_int ht h
  exact ⟨a, e0, fun _ => wa⟩
theorem Opens.bool {P : Program} {t : TypeId} (ht : P.underlying t = some .bool) : Opens P t Kd.bool (fun _ => True) := by
  intro H enc W base spare held fuel cs x h
  obtain ⟨a, e0, rfl⟩ := DataW.trod_bool ht h
  exact ⟨a, e0, fun _ => trivial⟩
theorem Opens.string {P : Program} {t : TypeId} (ht : P.underlying t = some .string) : Opens P t Kd.string (fun a => a.size ≤ 140737488351232) := by
  intro H enc W base spare held fuel cs x h
  obtain ⟨a, e0, rfl, ws⟩ := DataW.trod_string ht h
  refine ⟨a, e0, fun hw => ?_⟩
  simp only [DataW.weights, List.all_cons, List.all_nil, Bool.and_true, decide_eq_true_eq] at hw
  have e : a.data.toList.length = a.size := Array.length_toList
  unfold reachBytes at hw
  omega
theorem mem_weightsAll {H : Type} (P : Program) (e : TypeId) : ∀ (l : List (DataW H)) (d : DataW H), d ∈ l → ∀ n, n ∈ d.weights P e → n ∈ DataW.weightsAll P e l := by
  intro l
  induction l with
  | nil => intro d hd; cases hd
  | cons z r ih =>
    intro d hd n hn
    rw [DataW.weightsAll, List.mem_append]
    rcases List.mem_cons.1 hd with rfl | hd
    · exact .inl hn
    · exact .inr (ih d hd n hn)
theorem choose_list {β : Type} (n : Nat) (p : Nat → β → Prop) (h : ∀ i, i < n → ∃ b, p i b) : ∃ l : List β, l.length = n ∧ ∀ i b, l[i]? = some b → p i b := by
  induction n with
  | zero => exact ⟨[], rfl, fun i b hb => by simp at hb⟩
  | succ n ih =>
    obtain ⟨l, hl, hp⟩ := ih (fun i hi => h i (by omega))
    obtain ⟨b, hb⟩ := h n (by omega)
    refine ⟨l ++ [b], by simp [hl], fun i b' hb' => ?_⟩
    by_cases hi : i < l.length
    · rw [List.getElem?_append_left hi] at hb'; exact hp i b' hb'
    · rw [List.getElem?_append_right (by omega)] at hb'
      have hi2 : i = n := by
        rcases Nat.lt_or_ge (i - l.length) 1 with h1 | h1
        · omega
        · rw [List.getElem?_eq_none (by simpa using h1)] at hb'; cases hb'
      subst hi2
      rw [show i - l.length = 0 by omega] at hb'
      simp at hb'
      rw [← hb']; exact hb
theorem Opens.slice {P : Program} {t e : TypeId} {d : Kd α} {ok : α → Prop} {n : Nat} (ht : P.underlying t = some (.slice e)) (hc : P.cellsOf e = d.sz) (hb : P.bytesOf e = n) (hd : Opens P e d ok) :
    Opens P t (Kd.slice e d) (fun l => l.length * n ≤ 140737488351232 ∧ l.length ≤ maxLen ∧ ∀ a ∈ l, ok a) := by
  intro H enc W base spare held fuel cs x h
  rcases Go.Deep.open_slice ht h with ⟨rfl, rfl⟩ | ⟨a, len, cap, m, n', D, Pl, rfl, _, hl, hm, hmm, rfl, hx⟩
  · exact ⟨[], ⟨none, 0, rfl, Nat.le_refl _, rfl, by simp, fun h => absurd h (Nat.lt_irrefl _)⟩, fun _ => ⟨by simp, by simp, fun a ha => by cases ha⟩⟩
  · have hlm : len ≤ m := by rw [hmm]; split <;> omega
    obtain ⟨l, hll, hp⟩ := choose_list len (fun i z => ∃ cs', W.cells? base (a.add (i * P.cellsOf e)) (P.cellsOf e) = some cs' ∧ d.K W z cs' ∧ (((DataW.weights P e (D i)).all (· ≤ reachBytes)) = true → ok z)) (fun i hi => by
      obtain ⟨cs', h1, h2⟩ := hx i (by omega)
      obtain ⟨z, hz, hok⟩ := hd H enc W base spare held n' cs' _ h2
      exact ⟨z, cs', h1, hz, hok⟩)
    subst hll
    unfold maxLen at hm
    refine ⟨l, ⟨some a, cap, rfl, hl, rfl, by omega, fun _ => ⟨a, rfl, fun j p hj => ?_⟩⟩, fun hw => ?_⟩
    · obtain ⟨cs', h1, h2, _⟩ := hp j p hj
      rw [hc] at h1
      obtain ⟨_, hlen, hcell⟩ := World.cells?_some h1
      refine ⟨cs', hlen, h2, fun i u hu => ?_⟩
      have hi : i < d.sz := by rw [← hlen]; exact (List.getElem?_eq_some_iff.1 hu).1
      have := (hcell i hi).trans hu
      rw [Addr.add_add] at this
      exact this
    · rw [DataW.weights, ht] at hw
      simp only [List.all_cons, List.all_append, Bool.and_eq_true, decide_eq_true_eq] at hw
      obtain ⟨h1, h2, _⟩ := hw
      rw [hb] at h1
      refine ⟨?_, by unfold maxLen; omega, fun z hz => ?_⟩
      · have h3 : l.length * n ≤ (((List.range l.length).map D).length + ((List.range (m - l.length)).map fun j => D (l.length + j)).length) * n := Nat.mul_le_mul_right _ (by simp)
        unfold reachBytes at h1
        omega
      · obtain ⟨i, hi, rfl⟩ := List.getElem_of_mem hz
        obtain ⟨_, _, _, hok⟩ := hp i _ (List.getElem?_eq_getElem hi)
        refine hok ?_
        rw [List.all_eq_true] at h2 ⊢
        intro q hq
        exact h2 q (mem_weightsAll P e _ (D i) (List.mem_map.2 ⟨i, List.mem_range.2 hi, rfl⟩) q hq)
set_option maxRecDepth 100000 in
theorem Opens.value : Opens Tryz.prog 61 k61 (fun v => (Lit.int .i64 v.f0).wf = true ∧ (Lit.int .i64 v.f1).wf = true ∧ v.f2.size ≤ 140737488351232) := by
  intro H enc W base spare held fuel cs x h
  obtain ⟨y0, y1, y2, n, rfl, hl, h0, h1, h2⟩ := Go.Deep.trod_struct3 Tryz.underlying61 h
  have hc : Tryz.prog.cellsOf 61 = 3 := by kernel_rfl
  have c0 : Tryz.prog.cellsOf 59 = 1 := by kernel_rfl
  have c1 : Tryz.prog.cellsOf 2 = 1 := by kernel_rfl
  have c2 : Tryz.prog.cellsOf 9 = 1 := by kernel_rfl
  rw [hc] at hl
  simp only [c0, c1, c2] at h0 h1 h2
  obtain ⟨a, e0, o0⟩ := Opens.int Tryz.underlying59 H enc W base spare held _ _ _ h0
  obtain ⟨b, e1, o1⟩ := Opens.int Tryz.underlying2 H enc W base spare held _ _ _ h1
  obtain ⟨c, e2, o2⟩ := Opens.string Tryz.underlying9 H enc W base spare held _ _ _ h2
  match cs, hl with
  | [z0, z1, z2], _ =>
    have q0 : [z0] = [Value.int .i64 a] := e0
    have q1 : [z1] = [Value.int .i64 b] := e1
    have q2 : [z2] = [Value.string c] := e2
    simp only [List.cons.injEq, and_true] at q0 q1 q2
    subst q0 q1 q2
    refine ⟨⟨a, b, c⟩, k61_mk W ⟨a, b, c⟩, fun hw => ?_⟩
    rw [DataW.weights, Tryz.underlying61] at hw
    simp only [List.map_cons, List.map_nil, DataW.weightsEach, List.all_append, List.append_nil, Bool.and_eq_true] at hw
    exact ⟨o0 hw.1, o1 hw.2.1, o2 hw.2.2⟩
set_option maxRecDepth 100000 in
theorem Opens.col : Opens Tryz.prog 88 k88 (fun v => (Lit.int .i64 v.f0).wf = true) := by
  intro H enc W base spare held fuel cs x h
  obtain ⟨y0, y1, n, rfl, hl, h0, h1⟩ := Go.ChangeShapes.trod_struct2 Tryz.underlying88 h
  have hc : Tryz.prog.cellsOf 88 = 2 := by kernel_rfl
  have c0 : Tryz.prog.cellsOf 59 = 1 := by kernel_rfl
  have c1 : Tryz.prog.cellsOf 4 = 1 := by kernel_rfl
  rw [hc] at hl
  simp only [c0, c1] at h0 h1
  obtain ⟨a, e0, o0⟩ := Opens.int Tryz.underlying59 H enc W base spare held _ _ _ h0
  obtain ⟨b, e1, o1⟩ := Opens.bool Tryz.underlying4 H enc W base spare held _ _ _ h1
  match cs, hl with
  | [z0, z1], _ =>
    have q0 : [z0] = [Value.int .i64 a] := e0
    have q1 : [z1] = [Value.bool b] := e1
    simp only [List.cons.injEq, and_true] at q0 q1
    subst q0 q1
    refine ⟨⟨a, b⟩, k88_mk W ⟨a, b⟩, fun hw => ?_⟩
    rw [DataW.weights, Tryz.underlying88] at hw
    simp only [List.map_cons, List.map_nil, DataW.weightsEach, List.all_append, List.append_nil, Bool.and_eq_true] at hw
    exact o0 hw.1
end Go.Proofs.YtmhobbdedmjmnaaGreatDoor
end
section
namespace Go.Proofs.YtmhobbdedmjmnaaGreatDoor
open Go.RowKit
variable {H : Type} {enc : TypeId × Value → H}
theorem returnsInHanded_both {a : Assume} {C : Checked} {os : Os} {f : FuncId} {fn : Func} {s : ChangeSpec} {conds : List PathCond} {apart fresh handsOn again : Bool} {X : World → Array Value → Prop}
    (hX : ∀ (w w' : World) (args : Array Value), w.heap = w'.heap → X w args → X w' args)
    (own : ownKnob C.prog.godebug = none) (started : os.Started) (noInit : C.prog.inits.idxOf? f = none) (hfn : C.prog.funcs[f]? = some fn)
    (witness : ∃ (w : World) (tape : Tape) (i : Input), w.os = os ∧ (w.forCall tape i).Shaped C.prog ∧ i.vars = [] ∧ Input.okWide C.prog (w.forCall tape i) .any w.heap.size f i ∧
      ((s.pre enc C.prog fn conds apart (w.forCall tape i).memory i.args ∧ X (w.forCall tape i).memory i.args) ∧ sizedMet enc C.prog fn (OpenSpec.ofChange s) apart (w.forCall tape i).memory i.args) ∧ a.holds C.prog (lone (Frame.enter C.prog f i.args .normal) [] (w.forCall tape i)))
    (contract : ∀ (W : World) (base : Nat) (args : Array Value) (ds gs : List (DataW H)) (before : List MemPlace),
      (∀ (j : Nat) t v, fn.params[j]? = some t → args[j]? = some v → Value.okWide C.prog W .any base t v) →
      DataW.Whole enc C.prog fn.params.toList s.vars apart W args.toList ds gs before →
      conds.all (PathCond.test C.prog ⟨fn.params.toList, ds, s.plain.varTypes C.prog, gs⟩) = true →
      (DataW.weightsEach C.prog (fn.params.toList ++ s.plain.varTypes C.prog) (ds ++ gs)).all (· ≤ reachBytes) = true → X W args → W.ShapedOpen C.prog →
      a.holds C.prog (lone (Frame.enter C.prog f args .normal) [] W) →
      Calls C.prog f args W fun e W' => ∃ v, e = .returned v ∧ s.post enc C.prog fn apart fresh handsOn again W args v W') :
    ReturnsInHanded a C os f .any (fun w args => (s.pre enc C.prog fn conds apart w args ∧ X w args) ∧ sizedMet enc C.prog fn (OpenSpec.ofChange s) apart w args) (s.post enc C.prog fn apart fresh handsOn again) := by
  refine returnsInHanded_of_calls own started noInit witness ?_
  intro w tape i _ hsh _ hok hpre hholds
  obtain ⟨_, _, _, fn', hfn', _, _, _, _, hval⟩ := hok
  have e : fn' = fn := Option.some.inj (hfn'.symm.trans hfn)
  subst e
  obtain ⟨⟨⟨ds, gs, before, hw, hc⟩, hx⟩, hz⟩ := hpre
  have hw' := DataW.Whole.of_heap (w' := w.forCall tape i) (by rfl) hw
  refine (contract (w.forCall tape i) w.heap.size i.args ds gs before hval hw' hc (hz.weights hw) (hX _ _ _ (by rfl) hx) hsh hholds).mono fun e W' ⟨v, he, hp⟩ => ?_
  subst he
  exact ChangeSpec.post_blind hp
theorem own : ownKnob Tryz.prog.godebug = none := by kernel_rfl
theorem laidOut : laidOutB Tryz.prog = true := by kernel_rfl
noncomputable def laidWorld (os : Os) : World :=
  let w0 := World.doorLaid Tryz.prog 600 os
  { w0 with heap := w0.heap.modify 2 fun
      | .cells _ t frozen => .cells (Lib.firstTab.map fun z => Value.int .u8 z).toArray t frozen
      | o => o }
theorem laid_plain {W : World} (h : laidMetH Tryz.prog Rows.rowsStringsRow.laid W) : laidMet Tryz.prog Rows.rowsStringsRow.laid W := by
  have e : (Rows.rowsStringsRow.laid.filter fun x => x.2.handleName?.isSome) = [] := by kernel_rfl
  unfold laidMetH at h
  rw [e] at h
  exact h
theorem laid_met (os : Os) (args : Array Value) : laidMetH Tryz.prog Rows.rowsStringsRow.laid ((laidWorld os).forCall (fun _ _ => 0) ⟨#[], args, []⟩).memory := by
  have e : (Rows.rowsStringsRow.laid.filter fun x => x.2.handleName?.isSome) = [] := by kernel_rfl
  unfold laidMetH
  rw [e]
  exact laidMet_of_run' 8 (by kernel_rfl) (by kernel_rfl)
theorem row_errorString (u : TypeId) (h : Tryz.prog.typeName? 3 u = some "*errors.errorString") : u = 221 :=
  typeName_ptr_named (nm := "errors.errorString") (by kernel_rfl) (by kernel_rfl) (by decide) u h
theorem laid_of {W : World} (h0 : laidMetH Tryz.prog Rows.rowsStringsRow.laid W) (hsh : W.ShapedOpen Tryz.prog) : LaidE W := by
  have h := laid_plain h0
  have hp : Lib.TabIs Tryz.prog W "internal/strconv.uint64pow10" .u64 Lib.pow10Tab := by
    have z := h.tail.tail
    have e : Rows.laid_internal_strconv_uint64pow10 (H := Unit) = Lib.tabData .u64 Lib.pow10Tab := by kernel_rfl
    rw [e] at z
    exact Lib.tabIs_of_head (g := 0) (t := 198) (e := 153) (n := 20) (by kernel_rfl) (by kernel_rfl) (by kernel_rfl) (by kernel_rfl) (by kernel_rfl) (by kernel_rfl) z
  have hs : ∃ tp p, W.var? Tryz.prog "strconv.ErrSyntax" = some #[.iface tp p] := by
    obtain ⟨a, s, hv, _⟩ := laid_sentinel (h.tail.tail.tail.tail.tail) (g := 4) (ti := 104) (tp := 221) (te := 223) (ts := 9) (by kernel_rfl) (by kernel_rfl) Tryz.underlying104 row_errorString Tryz.underlying221 Tryz.underlying223 rfl rfl Tryz.underlying9 (by kernel_rfl) (by kernel_rfl)
    exact ⟨_, _, hv⟩
  have hr : ∃ tp p, W.var? Tryz.prog "strconv.ErrRange" = some #[.iface tp p] := by
    obtain ⟨a, s, hv, _⟩ := laid_sentinel (h.tail.tail.tail.tail) (g := 5) (ti := 104) (tp := 221) (te := 223) (ts := 9) (by kernel_rfl) (by kernel_rfl) Tryz.underlying104 row_errorString Tryz.underlying221 Tryz.underlying223 rfl rfl Tryz.underlying9 (by kernel_rfl) (by kernel_rfl)
    exact ⟨_, _, hv⟩
  obtain ⟨m, hm⟩ := cell_of_shapedOpen_int (g := 1) (t := 3) (k := .i64) (zero := #[.int .i64 0]) hsh (of_decide_eq_true (by kernel_rfl)) (by kernel_rfl) rfl (by kernel_rfl) (by kernel_rfl) (by kernel_rfl)
  exact ⟨⟨hp, ⟨m, hm⟩⟩, hs, hr⟩
end Go.Proofs.YtmhobbdedmjmnaaGreatDoor
end
section
namespace Go.Proofs.YtmhobbdedmjmnaaGreatDoor.rowsStrings
open Go.ChangeShapes Go.WideShapes Go.ChangeAt Go.RowKit
open Go.ChangeMaps (open_string shut_string)
open Go.Proofs.YtmhobbdedmjmnaaGreatDoor.Q Go.Proofs.YtmhobbdedmjmnaaGreatDoorW.PrintWords
set_option linter.unusedVariables false
set_option maxRecDepth 100000 in
set_option maxHeartbeats 1000000 in
theorem lifted (os : Os) (started : os.Started) (H : Type) (enc : TypeId × Value → H) :
    ReturnsInHanded {} Tryz.checked os 12 .any (fun w args => (Rows.rowsStringsSpec.pre enc Tryz.prog Tryz.f12 [] false w args ∧ laidMetH Tryz.prog Rows.rowsStringsRow.laid w) ∧ sizedMet enc Tryz.prog Tryz.f12 (OpenSpec.ofChange Rows.rowsStringsSpec) false w args) (Rows.rowsStringsSpec.post enc Tryz.prog Tryz.f12 false true false false) := by
  refine returnsInHanded_both (C := Tryz.checked) (X := fun w _ => laidMetH Tryz.prog Rows.rowsStringsRow.laid w) (fun _ _ _ hh h => h.of_heap hh) own started (by kernel_rfl) Tryz.func12
    (ChangeSpec.witness_shaped (enc := enc) (C := Tryz.checked) (os := os) (X := fun w _ => laidMetH Tryz.prog Rows.rowsStringsRow.laid w) false (laidWorld os) #[.slice none 0 0, .string ByteArray.empty, .bool false] 8 rfl (World.shaped_of_RefB (by kernel_rfl) (by kernel_rfl)) (by kernel_rfl) (by kernel_rfl) (by kernel_rfl) (laid_met os _)) ?_
  intro W base args ds gs before hval0 hW _ hsz0 hL hsh _
  have hsz : (DataW.weightsEach Tryz.prog (Tryz.f12.params.toList ++ Rows.rowsStringsSpec.plain.varTypes Tryz.prog) (ds ++ gs)).all (· ≤ reachBytes) = true := hsz0
  have hW' := hW
  obtain ⟨p, q, hA0, hV, rfl, hfz, hnd⟩ := hW
  have hA : DataW.TrodAll enc Tryz.prog W 0 (fun _ => true) true Tryz.f12.params.toList args.toList ds p := hA0
  rw [Tryz.params12] at hA hsz
  obtain ⟨v0, vs0, d0, ds0, p0, q0, hargs, rfl, rfl, h0, r0⟩ := trodAll_cons hA
  obtain ⟨v1, vs1, d1, ds1, p1, q1, rfl, rfl, rfl, h1, r1⟩ := trodAll_cons r0
  obtain ⟨v2, vs2, d2, ds2, p2, q2, rfl, rfl, rfl, h2, r2⟩ := trodAll_cons r1
  obtain ⟨rfl, rfl, rfl⟩ := trodAll_nil r2
  obtain rfl : args = #[v0, v1, v2] := by cases args; simp_all
  obtain ⟨rfl, rfl⟩ := trodVars_none hV
  have hval : ∀ (j : Nat) t v, Tryz.f12.params[j]? = some t → (#[v0, v1, v2] : Array Value)[j]? = some v → Value.okWide Tryz.prog W .any base t v := hval0
  rw [Tryz.params12] at hval
  have k0 := h0
  have lt0 : ∀ x ∈ p0, x.block < W.heap.size := by obtain ⟨m, hm⟩ := k0; exact DataW.trod_lt m _ _ _ hm
  obtain ⟨aa0, len0, cap0, rfl⟩ := okWide_slice Tryz.underlying22 (hval 0 22 v0 rfl rfl)
  obtain ⟨fuel0, hf0⟩ := h0
  obtain ⟨l0, ⟨A0, c0, ev0, hc0, hr0⟩, o0⟩ := (Opens.slice Tryz.underlying22 (by kernel_rfl) (n := 24) (by kernel_rfl) (Opens.slice Tryz.underlying40 (by kernel_rfl) (n := 32) (by kernel_rfl) Opens.value)) H enc W 0 _ _ fuel0 _ _ hf0
  obtain ⟨rfl, rfl, rfl⟩ : aa0 = A0 ∧ len0 = l0.length ∧ cap0 = c0 := by simpa [Value.cells] using ev0
  have y0 := o0 (List.all_eq_true.2 fun z hz => (List.all_eq_true.1 hsz) z (DataW.weights_mem_each (j := 0) (t := 22) rfl rfl z hz))
  have k1 := h1
  have lt1 : ∀ x ∈ p1, x.block < W.heap.size := by obtain ⟨m, hm⟩ := k1; exact DataW.trod_lt m _ _ _ hm
  obtain ⟨a1, rfl, rfl, rfl, w1⟩ := open_string Tryz.underlying9 (hval 1 9 v1 rfl rfl) h1
  have y1 : a1.size ≤ 140737488351232 := by
    have z := sized_string hsz (j := 1) (t := 9) rfl rfl
    rw [Array.length_toList] at z
    exact z
  have k2 := h2
  have lt2 : ∀ x ∈ p2, x.block < W.heap.size := by obtain ⟨m, hm⟩ := k2; exact DataW.trod_lt m _ _ _ hm
  obtain ⟨a2, rfl, rfl, rfl⟩ := open_bool Tryz.underlying4 (hval 2 4 v2 rfl rfl) h2
  obtain ⟨k, hk⟩ := pure_RowsStrings l0 a1 a2 y0 y1
  refine (Q.lawS.calls k _ _ l0 a1 a2 true W hr0 hc0 (laid_of hL hsh) ⟨rfl⟩ hk).mono fun e W' ⟨he, bel⟩ => ?_
  subst he
  exact ⟨_, rfl, _, _, _, [], _, [], hW', trodAll_mk1 (shut_bool Tryz.underlying4 _), (trodAll_cons_mk (Below.trod laidOut (by kernel_rfl) (of_decide_eq_true (by kernel_rfl)) k0 bel lt0) (trodAll_cons_mk (Below.trod laidOut (by kernel_rfl) (of_decide_eq_true (by kernel_rfl)) k1 bel lt1) (trodAll_cons_mk (Below.trod laidOut (by kernel_rfl) (of_decide_eq_true (by kernel_rfl)) k2 bel lt2) trodAll_mk0))), rfl, bel.frame _, fun h => by cases h⟩
theorem over : Rows.rowsStringsRow.holds Tryz.pinned (OpenSpec.ofChange Rows.rowsStringsSpec) :=
  OpenClaim.holds_of_wide 12 Tryz.f12 rfl rfl rfl rfl rfl rfl rfl ⟨rfl, rfl, rfl, rfl, rfl⟩ rfl rfl rfl rfl rfl (by kernel_rfl) Tryz.func12 (by kernel_rfl)
    (of_decide_eq_true (by kernel_rfl)) (by unfold Func.isWrapper; first | (rw [if_pos (by decide +kernel)]; kernel_rfl) | (rw [if_neg (by decide +kernel)]; exact ⟨rfl, rfl⟩))
    (fun os started H enc _ => lifted os started H enc)
theorem card : Rows.RowsStringsCardSaid :=
  Claim7.holds_tied_plain_at .later [] [.data, .data, .data, .data, .sentinel, .sentinel, .pinned] true (true, "3fbdbdc6005f940d9b2637db3a20e2190d23d3aac91fe9574c23040e4f9c7ab4") true
    over (fun _ h => by cases h) (by kernel_rfl) (fun _ h => by cases h) rowsStrings_row_tie rfl ⟨rfl, rfl⟩ (by kernel_rfl) rfl
    (fun f fn hf hfn => by
      obtain rfl : f = 12 := Option.some.inj ((show Tryz.prog.funcNamed "tactician/tacticianlaw02.RowsStrings" = some 12 by kernel_rfl).symm.trans hf) |>.symm
      obtain rfl : fn = Tryz.f12 := (Option.some.inj (Tryz.func12.symm.trans hfn)).symm
      refine ⟨by kernel_rfl, fun j t ht => ?_⟩
      rw [Tryz.params12] at ht
      have hm := Array.mem_of_getElem? ht
      simp only [List.mem_toArray, List.mem_cons, List.mem_nil_iff, or_false] at hm
      rcases hm with rfl | rfl | rfl
      · exact (show Tryz.prog.wantsStandIn 22 = false by kernel_rfl)
      · exact (show Tryz.prog.wantsStandIn 9 = false by kernel_rfl)
      · exact (show Tryz.prog.wantsStandIn 4 = false by kernel_rfl))
    (by kernel_rfl)
end Go.Proofs.YtmhobbdedmjmnaaGreatDoor.rowsStrings
namespace Go.Proofs.YtmhobbdedmjmnaaGreatDoor
theorem rowsStrings_card : Rows.RowsStringsCardSaid := rowsStrings.card
end Go.Proofs.YtmhobbdedmjmnaaGreatDoor
end
