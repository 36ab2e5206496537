/- Proved: the card of the statement RowsApart, under the conditions of the given statements alone (written by a program of ours for this seat). -/
import Derived.ChangeSame
import Derived.Test.YtmhobbdedmjmnaaGreatDoorRows
import Derived.HandedShaped
import Derived.Handed
import Derived.LaidLaws
import Derived.LaidHandle
import Derived.LaidMore
import Derived.Stop.LaidErr
import Derived.Lib.LaidTab
import Derived.Lib.LaidRTab
import Derived.Shelf.Vars
import Derived.ProofKit
import Derived.SizedLaws
import Derived.Lib.LaidIn
import Derived.PinnedBridge
import Derived.Test.YtmhobbdedmjmnaaGreatDoorCards
import Derived.Test.YtmhobbdedmjmnaaGreatDoorTie
import Derived.SevenTiedAt
import Derived.WalkKit
import Derived.OpenShut
import Derived.ShutString
import Derived.ChangeOld
import Derived.Below
import Derived.Test.YtmhobbdedmjmnaaGreatDoorMApart6
section
/- Each function reached is shown to return what the plain function beside it computes, wherever that is defined (written by a program of ours for this seat). -/
namespace Go.Proofs.YtmhobbdedmjmnaaGreatDoor.Q
open Go.RowKit Go.Proofs.YtmhobbdedmjmnaaGreatDoorW.PrintWords Go.Proofs.YtmhobbdedmjmnaaGreatDoorW.PrintLast Go.Proofs.YtmhobbdedmjmnaaGreatDoorW.PrintMore
attribute [local go_sem] max2_int min2_int max_two min_two max_three min_three max_four min_four   -- for this text's walks alone
set_option linter.unusedVariables false
set_option linter.unusedSimpArgs false
mutual
def tacticianlaw02_RowsApart.l0 : Nat → List (List (S61)) → List Int → List (List (List (S61))) → List (List (S61)) → List (List (S61)) → Int → Option (Bool)
  | 0, _, _, _, _, _, _ => none
  | k + 1, x7, x8, x9, x11, x12, x13 => if x13 < (x9.length : Int) then (if 0 ≤ x13 then (if ((rd_L4 x9 x13).length : Int) = 0 then (tacticianlaw02_RowsApart.j1 k x7 x8 x9 x11 x12 x13 true) else ((tacticianref02_Places.f k (rd_L4 x9 x13) x8).bind fun t601 => (tacticianlaw02_RowsApart.j1 k x7 x8 x9 x11 x12 x13 (!t601)))) else (none)) else ((rows_Same.f x11 x7).bind fun bt596 => (if bt596.2 = 0 then (if bt596.1 = true then ((tacticianlaw02_awake.f).bind fun t598 => (some t598)) else (some false)) else (some false)))
def tacticianlaw02_RowsApart.j1 : Nat → List (List (S61)) → List Int → List (List (List (S61))) → List (List (S61)) → List (List (S61)) → Int → Bool → Option (Bool)
  | 0, _, _, _, _, _, _, _ => none
  | k + 1, x7, x8, x9, x11, x12, x13, x61 => if x61 = true then (some false) else (if 0 ≤ x13 then (if x13 < (x9.length : Int) then (if 0 < ((rd_L4 x9 x13).length : Int) then ((tacticianref02_At.f k (rd_L3 (rd_L4 x9 x13) 0) x8).bind fun t604 => (tacticianlaw02_RowsApart.l1 k x7 x8 x9 x11 x12 x13 t604 0)) else (none)) else (none)) else (none))
def tacticianlaw02_RowsApart.l1 : Nat → List (List (S61)) → List Int → List (List (List (S61))) → List (List (S61)) → List (List (S61)) → Int → List (S61) → Int → Option (Bool)
  | 0, _, _, _, _, _, _, _, _ => none
  | k + 1, x7, x8, x9, x11, x12, x13, x14, x15 => if 0 ≤ x13 then (if x13 < (x9.length : Int) then (if x15 < ((rd_L4 x9 x13).length : Int) then (if 0 ≤ x15 then ((tacticianref02_At.f k (rd_L3 (rd_L4 x9 x13) x15) x8).bind fun t626 => ((tacticianref02_Compare.f k t626 x14).bind fun t629 => (if t629 = 0 then (tacticianlaw02_RowsApart.l1 k x7 x8 x9 x11 x12 x13 x14 (wrap64 (x15 + 1))) else (some false)))) else (none)) else (if x13 > 0 then (if 0 ≤ (wrap64 (x13 - 1)) then (if (wrap64 (x13 - 1)) < (x12.length : Int) then ((tacticianref02_Compare.f k (rd_L3 x12 (wrap64 (x13 - 1))) x14).bind fun t609 => (if t609 ≥ 0 then (some false) else (if x12.length < 5864062014805 then (if x11.length + (rd_L4 x9 x13).length < 5864062014805 then (tacticianlaw02_RowsApart.l0 k x7 x8 x9 (x11 ++ (rd_L4 x9 x13)) (x12 ++ [x14]) (wrap64 (x13 + 1))) else (none)) else (none)))) else (none)) else (none)) else (if x12.length < 5864062014805 then (if x11.length + (rd_L4 x9 x13).length < 5864062014805 then (tacticianlaw02_RowsApart.l0 k x7 x8 x9 (x11 ++ (rd_L4 x9 x13)) (x12 ++ [x14]) (wrap64 (x13 + 1))) else (none)) else (none)))) else (none)) else (none)
end
def tacticianlaw02_RowsApart.f (k : Nat) (l0 : List (List (S61))) (a1_0 : Int) (a1_1 : Int) (a2 : Int) : Option (Bool) := (tacticianlaw02_some.f k l0 14).bind fun t581 => ((some (([Int.tmod (wrap64 (a1_0)) 3, Int.tmod (wrap64 (a1_1)) 3] : List Int) : List Int)).bind fun y584 => (if 0 ≤ (Int.tmod (wrap64 (a2)) 3) then (if (Int.tmod (wrap64 (a2)) 3) ≤ (y584.length : Int) then ((some (y584.take ((Int.tmod (wrap64 (a2)) 3) : Int).toNat : List Int)).bind fun y587 => ((rows_Groups.f t581 y587).bind fun bt592 => (if bt592.2 = 0 then (tacticianlaw02_RowsApart.l0 k t581 y587 bt592.1 ([] : List (List (S61))) ([] : List (List (S61))) 0) else (some false)))) else (none)) else (none)))
set_option maxHeartbeats 8000000 in
set_option maxRecDepth 100000 in
theorem tacticianlaw02_RowsApart.calls (k : Nat) (A0 : Option Addr) (c0 : Nat) (l0 : List (List (S61))) (a1_0 : Int) (a1_1 : Int) (a2 : Int) (r : Bool) (w : World) (hr0 : Kd.C (Kd.slice 61 k61) w A0 l0.length l0) (hc0 : l0.length ≤ c0) (hL_ : Laid w) (hr_ : Aside0 (r = true)) (h : tacticianlaw02_RowsApart.f k l0 a1_0 a1_1 a2 = some r) :
  Calls Tryz.prog 11 #[.slice A0 l0.length c0, .agg #[.int .u8 a1_0, .int .u8 a1_1], .int .u8 a2] w fun e w' => e = .returned (.bool r) ∧ Below w.heap.size w w' := by
 have hu69 := Tryz.underlying69
 have HLD := Aside0.mk hL_
 clear hL_
 have HR0 := Aside0.mk hr0
 have HC0 := Aside0.mk hc0
 clear hr0 hc0
 have HB := Aside0.mk (Below.refl w.heap.size w)
 have H : ((tacticianlaw02_some.f k l0 14).bind fun t581 => ((some (([Int.tmod (wrap64 (a1_0)) 3, Int.tmod (wrap64 (a1_1)) 3] : List Int) : List Int)).bind fun y584 => (if 0 ≤ (Int.tmod (wrap64 (a2)) 3) then (if (Int.tmod (wrap64 (a2)) 3) ≤ (y584.length : Int) then ((some (y584.take ((Int.tmod (wrap64 (a2)) 3) : Int).toNat : List Int)).bind fun y587 => ((rows_Groups.f t581 y587).bind fun bt592 => (if bt592.2 = 0 then (tacticianlaw02_RowsApart.l0 k t581 y587 bt592.1 ([] : List (List (S61))) ([] : List (List (S61))) 0) else (some false)))) else (none)) else (none)))) = some r := h
 clear h
 replace H := Option.bind_eq_some_iff.mp H
 obtain ⟨t581, A40, H⟩ := H
 replace H : ((some (([Int.tmod (wrap64 (a1_0)) 3, Int.tmod (wrap64 (a1_1)) 3] : List Int) : List Int)).bind fun y584 => (if 0 ≤ (Int.tmod (wrap64 (a2)) 3) then (if (Int.tmod (wrap64 (a2)) 3) ≤ (y584.length : Int) then ((some (y584.take ((Int.tmod (wrap64 (a2)) 3) : Int).toNat : List Int)).bind fun y587 => ((rows_Groups.f t581 y587).bind fun bt592 => (if bt592.2 = 0 then (tacticianlaw02_RowsApart.l0 k t581 y587 bt592.1 ([] : List (List (S61))) ([] : List (List (S61))) 0) else (some false)))) else (none)) else (none))) = some r := H
 have A4 := Aside0.mk A40
 clear A40
 obtain ⟨y584, hy584⟩ : ∃ y_ : List Int, y_ = (([Int.tmod (wrap64 (a1_0)) 3, Int.tmod (wrap64 (a1_1)) 3] : List Int)) := ⟨_, rfl⟩
 replace H : (if 0 ≤ (Int.tmod (wrap64 (a2)) 3) then (if (Int.tmod (wrap64 (a2)) 3) ≤ (y584.length : Int) then ((some (y584.take ((Int.tmod (wrap64 (a2)) 3) : Int).toNat : List Int)).bind fun y587 => ((rows_Groups.f t581 y587).bind fun bt592 => (if bt592.2 = 0 then (tacticianlaw02_RowsApart.l0 k t581 y587 bt592.1 ([] : List (List (S61))) ([] : List (List (S61))) 0) else (some false)))) else (none)) else (none)) = some r := by first | (rw [hy584]; with_reducible exact H) | (have H2_ := (Option.bind_some _ _).symm.trans H; rw [hy584]; with_reducible exact H2_) | (have H2_ := (Option.bind_some _ _).symm.trans H; with_reducible exact H2_) | with_reducible exact H | (rw [hy584]; exact H) | exact H
 have Ny584 := Aside0.mk hy584
 clear hy584
 obtain ⟨ji5, hji5⟩ : ∃ j_ : Int, (Int.tmod (wrap64 (a2)) 3) = j_ := ⟨_, rfl⟩
 replace H : (if 0 ≤ (ji5) then (if (ji5) ≤ (y584.length : Int) then ((some (y584.take ((ji5) : Int).toNat : List Int)).bind fun y587 => ((rows_Groups.f t581 y587).bind fun bt592 => (if bt592.2 = 0 then (tacticianlaw02_RowsApart.l0 k t581 y587 bt592.1 ([] : List (List (S61))) ([] : List (List (S61))) 0) else (some false)))) else (none)) else (none)) = some r := by first | (rw [hji5] at H; exact H) | (simp only [hji5] at H ⊢; exact H)
 (try rw [hji5] at A4)
 by_cases c6 : 0 ≤ (ji5)
 ·rw [if_pos c6] at H
  have c6b0 := eq_true c6
  have c6b1 : decide (0 ≤ (ji5)) = true := decide_eq_true c6
  clear c6
  by_cases c7 : (ji5) ≤ (y584.length : Int)
  ·rw [if_pos c7] at H
   have c7b0 := eq_true c7
   have c7b1 : decide ((ji5) ≤ (y584.length : Int)) = true := decide_eq_true c7
   clear c7
   obtain ⟨y587, hy587⟩ : ∃ y_ : List Int, y_ = (y584.take ((ji5) : Int).toNat) := ⟨_, rfl⟩
   replace H : ((rows_Groups.f t581 y587).bind fun bt592 => (if bt592.2 = 0 then (tacticianlaw02_RowsApart.l0 k t581 y587 bt592.1 ([] : List (List (S61))) ([] : List (List (S61))) 0) else (some false))) = some r := by first | (rw [hy587]; with_reducible exact H) | (have H2_ := (Option.bind_some _ _).symm.trans H; rw [hy587]; with_reducible exact H2_) | (have H2_ := (Option.bind_some _ _).symm.trans H; with_reducible exact H2_) | with_reducible exact H | (rw [hy587]; exact H) | exact H
   have Ny587 := Aside0.mk hy587
   clear hy587
   replace H := Option.bind_eq_some_iff.mp H
   obtain ⟨⟨t592, t595⟩, A80, H⟩ := H
   replace H : (if t595 = 0 then (tacticianlaw02_RowsApart.l0 k t581 y587 t592 ([] : List (List (S61))) ([] : List (List (S61))) 0) else (some false)) = some r := H
   have A8 := Aside0.mk A80
   clear A80
   by_cases c9 : t595 = 0
   ·rw [if_pos c9] at H
    have c9b0 : (t595 == 0) = true := beq_iff_eq.mpr c9
    have c9b1 : (t595 != 0) = false := bne_eq_false_iff_eq.mpr c9
    clear c9
    have H' := Aside0.mk H
    clear H
    go_enter Tryz.func11, Tryz.ntmps11
    go_wp2_with (first | ((with_reducible refine gate_dst (N := 4) rfl ?_); refine box_event ?hg (N := 4) ?hd (cs := #[.int .u8 a1_0, .int .u8 a1_1]) (t := 69) ?hr ?_; (case hd => rfl); (case hg => rfl); (case hr => first | (go_simp; done) | (go_simp; rfl)); intro gb580 hg w10 hbox hb; have n0_ := Aside0.mk (below_step (by repeat (first | (with_reducible first | exact HB.out | apply yA | apply yN | apply yD) | exact HB.out)) hb); have n1_ := Aside0.mk (hbox); have n2_ := Aside0.mk ((by rw [hg]; exact (below_size (by repeat (first | (with_reducible first | exact HB.out | apply yA | apply yN | apply yD) | exact HB.out))) : w.heap.size ≤ gb580)); have n3_ := Aside0.mk ((by rw [hg]; exact (below_size (by repeat (first | (with_reducible first | exact HB.out | apply yA | apply yN | apply yD) | exact HB.out))) : w.heap.size ≤ gb580)); clear HB; have HB := n0_; have BK580 := n1_; have GW580 := n2_; have GE580 := n3_; clear n0_ n1_ n2_ n3_; clear hb hbox hg) | ((with_reducible refine gate_callee (f := 38) rfl ?_); refine goesL_ (some 19) rfl rfl Tryz.func38 (by kernel_rfl) rfl #[.slice A0 l0.length c0, .int .i64 14] rfl (by (try simp only [List.map_toArray, List.map_cons, List.map_nil]); first | done | rfl | (simp only [List.length_drop, List.length_take]; rfl)) ?_; (with_reducible refine (tacticianlaw02_some.calls k _ _ l0 14 t581 _ ?side1 ?side2 A4.out).mono ?_); (case side1 => repeat (first | exact (Kd.C_below HR0.out HB.out) | (with_reducible refine Kd.C_alloc ?_ _) | (with_reducible refine Kd.C_drewN ?_ _) | (with_reducible refine Kd.C_drew ?_))); (case side2 => exact HC0.out); rintro e w11 ⟨v582, rfl, ho0, hb⟩; refine ⟨_, rfl, ?_⟩; have n0_ := Aside0.mk (Kd.N_lower (Kd.N_mono (ok' := fun k_ => k_ ≠ gb580) (Kd.S_N (Kd.S_bound ho0)) (fun k_ hk_ => (Kd.freshB (g := gb580) (o := .cells #[.int .u8 a1_0, .int .u8 a1_1] 69 (0, 0)) (by (with_reducible repeat (first | refine zN ?_ _ | refine zD ?_ | refine zA ?_ _)); exact BK580.out) k_ hk_.2.1))) (below_size (by repeat (first | (with_reducible first | exact HB.out | apply yA | apply yN | apply yD | refine below_set ?_ GE580.out) | exact HB.out)))); have n1_ := Aside0.mk (blk_below (g := gb580) (o := .cells #[.int .u8 a1_0, .int .u8 a1_1] 69 (0, 0)) (by (with_reducible repeat (first | refine zN ?_ _ | refine zD ?_ | refine zA ?_ _)); exact BK580.out) hb); have n2_ := Aside0.mk (below_step (by repeat (first | (with_reducible first | exact HB.out | apply yA | apply yN | apply yD | refine below_set ?_ GE580.out) | exact HB.out)) hb); clear BK580; clear HB; have HO583 := n0_; have BK580 := n1_; have HB := n2_; clear n0_ n1_ n2_; (try clear hb); (try clear hb2); (try clear hk); (try clear hi); (try clear ho0); have hcz12_0 : w11.cell? ⟨gb580, 0, none⟩ = some (.int .u8 a1_0) := (blk_cell BK580.out 0).trans rfl; have hcz12_1 : w11.cell? ⟨gb580, 1, none⟩ = some (.int .u8 a1_1) := (blk_cell BK580.out 1).trans rfl; have hfz12_0 := blk_frozen BK580.out 0; have hfz12_1 := blk_frozen BK580.out 1) | ((with_reducible refine gate_dst (N := 28) rfl ?_); refine Kd.R_lit (Kd.int .i64) _ 3 ?hg (N := 28) ?hd (xs := ([Int.tmod (wrap64 (a1_0)) 3, Int.tmod (wrap64 (a1_1)) 3] : List Int)) (inner := [.int .i64 (Int.tmod (wrap64 (a1_0)) 3), .int .i64 (Int.tmod (wrap64 (a1_1)) 3)]) (ok := fun _ => True) (okp := fun _ => True) ?hr ?hp (fun _ hk => hk) trivial (Below.refl _ _) (Nat.le_refl _) (by simp) ?_; (case hd => rfl); (case hg => rfl); (case hr => first | (go_simp; done) | (go_simp; rfl)); (case hp => exact (Reps.one (show Kd.M (Kd.int .i64) _ _ _ (Int.tmod (wrap64 (a1_0)) 3) [.int .i64 (Int.tmod (wrap64 (a1_0)) 3)] from rfl) (Reps.one (show Kd.M (Kd.int .i64) _ _ _ (Int.tmod (wrap64 (a1_1)) 3) [.int .i64 (Int.tmod (wrap64 (a1_1)) 3)] from rfl) (Reps.none _ _)))); intro v585 w13 ho14 hb hg_ hnew_; clear hg_ hnew_; (first | rw [← Ny584.out] at ho14 | (simp only [Int.reduceToNat] at ho14; rw [← Ny584.out] at ho14)); have n0_ := Aside0.mk (Kd.N_elder' (by (with_reducible repeat (first | apply Kd.N_alloc | apply Kd.N_drewN | apply Kd.N_drew)); exact HO583.out) (Kd.R_base ho14) hb); have n1_ := Aside0.mk (Kd.R_lower ho14 (below_size (by repeat (first | (with_reducible first | exact HB.out | apply yA | apply yN | apply yD | refine below_set ?_ GE580.out) | exact HB.out)))); have n2_ := Aside0.mk (blk_below (g := gb580) (o := .cells #[.int .u8 a1_0, .int .u8 a1_1] 69 (0, 0)) (by (with_reducible repeat (first | refine zN ?_ _ | refine zD ?_ | refine zA ?_ _)); exact BK580.out) hb); have n3_ := Aside0.mk (below_step (by repeat (first | (with_reducible first | exact HB.out | apply yA | apply yN | apply yD | refine below_set ?_ GE580.out) | exact HB.out)) hb); clear HO583; clear BK580; clear HB; have HO583 := n0_; have HO586 := n1_; have BK580 := n2_; have HB := n3_; clear n0_ n1_ n2_ n3_; clear hb ho14; obtain ⟨Ao16, co16, eo16⟩ := Kd.R_slice HO586.out; subst eo16; have q15 : ((ji5) : Int) ≤ ((y584.length : Int) : Int) := of_decide_eq_true (by first | (with_reducible assumption) | assumption); obtain ⟨i015, hi015, _, hsz15, _⟩ := info_parts info3; have hroom15 : y584.length ≤ co16 := (Kd.R_reads' HO586.out).2.1; have hC15 : Kd.F (Kd.int .i64) _ _ Ao16 y584.length y584 := (Kd.V_at (base := w.heap.size) (Kd.R_V (Kd.R_types (Kd.R_apart' (HO586.out) (Kd.N_typed HO583.out) (by decide)) BK580.out (by decide)))).2.2; have hcut15 := cut_to (P := Tryz.prog) 34 3 .i64 Tryz.underlying34 hi015 Ao16 y584.length co16 (ji5) (of_decide_eq_true (by first | (with_reducible assumption) | assumption)) q15 hroom15; have hr15 := Kd.F_take (m := ((ji5) : Int).toNat) hC15 (by omega); have hy15 : y587.length = ((ji5) : Int).toNat := (by rw [Ny587.out, List.length_take]; omega); rw [← Ny587.out] at hr15; rw [← hy15] at hcut15; have HO591 := Aside0.mk (show Kd.V (Kd.int .i64) 3 _ w.heap.size _ (.slice Ao16 y587.length co16) y587 from Kd.V_mk (by omega) hr15); have HC591 := Aside0.mk (show y587.length ≤ co16 from by omega); clear hr15 hC15 hroom15 hi015 hsz15; have KY15 := Aside0.mk hy15; clear hy15; replace q15 := eq_true q15; obtain ⟨Ao17, co17, eo17⟩ := Kd.N_slice HO583.out; subst eo17) | ((with_reducible refine gate_callee (f := 36) rfl ?_); refine goesL_ (some 36) rfl rfl Tryz.func36 (by kernel_rfl) rfl #[.slice Ao17 t581.length co17, .slice Ao16 y587.length co16] rfl (by (try simp only [List.map_toArray, List.map_cons, List.map_nil]); first | done | rfl | (simp only [List.length_drop, List.length_take]; rfl)) ?_; (with_reducible refine (rows_Groups.calls _ _ t581 _ _ y587 t592 t595 _ ?side1 ?side2 ?side3 ?side4 A8.out).mono ?_); (case side1 => repeat (first | exact (Kd.N_reads' HO583.out).2.2 | (with_reducible refine Kd.C_alloc ?_ _) | (with_reducible refine Kd.C_drewN ?_ _) | (with_reducible refine Kd.C_drew ?_))); (case side2 => exact (Kd.N_reads' HO583.out).2.1); (case side3 => repeat (first | exact (Kd.V_reads' HO591.out).2.2 | (with_reducible refine Kd.C_alloc ?_ _) | (with_reducible refine Kd.C_drewN ?_ _) | (with_reducible refine Kd.C_drew ?_))); (case side4 => exact (Kd.V_reads' HO591.out).2.1); rintro e w18 ⟨v593, rfl, ho0, hb⟩; refine ⟨_, rfl, ?_⟩; have n0_ := Aside0.mk (Kd.N_elder' (by (with_reducible repeat (first | apply Kd.N_alloc | apply Kd.N_drewN | apply Kd.N_drew)); exact HO583.out) (Kd.N_base ho0) hb); have n1_ := Aside0.mk (Kd.R_below (by (with_reducible repeat (first | apply Kd.R_alloc | apply Kd.R_drewN | apply Kd.R_drew)); exact HO586.out) hb); have n2_ := Aside0.mk (Kd.V_elder' (by (with_reducible repeat (first | apply Kd.V_alloc | apply Kd.V_drewN | apply Kd.V_drew)); exact HO591.out) (Kd.N_base ho0) hb); have n3_ := Aside0.mk (Kd.N_lower (Kd.N_mono (ok' := fun k_ => some k_ ≠ (.slice Ao17 t581.length co17 : Value).ownBlock ∧ some k_ ≠ (.slice Ao16 y584.length co16 : Value).ownBlock ∧ k_ ≠ gb580) ho0 (fun k_ hk_ => ⟨(Kd.fresh' (Kd.N_lt (by (with_reducible repeat (first | apply Kd.N_alloc | apply Kd.N_drewN | apply Kd.N_drew)); exact HO583.out)) k_ hk_), (Kd.fresh' (Kd.R_lt (by (with_reducible repeat (first | apply Kd.R_alloc | apply Kd.R_drewN | apply Kd.R_drew)); exact HO586.out)) k_ hk_), (Kd.freshB (g := gb580) (o := .cells #[.int .u8 a1_0, .int .u8 a1_1] 69 (0, 0)) (by (with_reducible repeat (first | refine zN ?_ _ | refine zD ?_ | refine zA ?_ _)); exact BK580.out) k_ hk_)⟩)) (below_size (by repeat (first | (with_reducible first | exact HB.out | apply yA | apply yN | apply yD | refine below_set ?_ GE580.out) | exact HB.out)))); have n4_ := Aside0.mk (blk_below (g := gb580) (o := .cells #[.int .u8 a1_0, .int .u8 a1_1] 69 (0, 0)) (by (with_reducible repeat (first | refine zN ?_ _ | refine zD ?_ | refine zA ?_ _)); exact BK580.out) hb); have n5_ := Aside0.mk (below_step (by repeat (first | (with_reducible first | exact HB.out | apply yA | apply yN | apply yD | refine below_set ?_ GE580.out) | exact HB.out)) hb); clear HO583; clear HO586; clear HO591; clear BK580; clear HB; have HO583 := n0_; have HO586 := n1_; have HO591 := n2_; have HO594 := n3_; have BK580 := n4_; have HB := n5_; clear n0_ n1_ n2_ n3_ n4_ n5_; (try clear hb); (try clear hb2); (try clear hk); (try clear hi); (try clear ho0)))
    go_loopg [11, 12, 13] k (fun kq v11 v12 v13 w' => ∃ (x11_1 : List (List (S61))) (x12_1 : List (List (S61))) (x13_1 : Int), v13 = .int .i64 x13_1 ∧ Aside0 (tacticianlaw02_RowsApart.l0 kq t581 y587 t592 x11_1 x12_1 x13_1 = some r) ∧ Aside0 (kq ≤ k) ∧ Aside0 (Kd.N (Kd.slice 61 k61) 40 w' w.heap.size (fun k_ => some k_ ≠ (v593 : Value).ownBlock ∧ some k_ ≠ (v11 : Value).ownBlock ∧ some k_ ≠ (v12 : Value).ownBlock ∧ k_ ≠ gb580) (.slice Ao17 t581.length co17) t581) ∧ Aside0 (Kd.V (Kd.int .i64) 3 w' w.heap.size (fun k_ => some k_ ≠ ((.slice Ao17 t581.length co17) : Value).ownBlock ∧ some k_ ≠ (v593 : Value).ownBlock ∧ some k_ ≠ (v11 : Value).ownBlock ∧ some k_ ≠ (v12 : Value).ownBlock ∧ k_ ≠ gb580) (.slice Ao16 y587.length co16) y587) ∧ Aside0 (Kd.N (Kd.slice 40 (Kd.slice 61 k61)) 22 w' w.heap.size (fun k_ => some k_ ≠ ((.slice Ao17 t581.length co17) : Value).ownBlock ∧ some k_ ≠ (v11 : Value).ownBlock ∧ some k_ ≠ (v12 : Value).ownBlock ∧ k_ ≠ gb580) v593 t592) ∧ Aside0 (Kd.N (Kd.slice 61 k61) 40 w' w.heap.size (fun k_ => some k_ ≠ ((.slice Ao17 t581.length co17) : Value).ownBlock ∧ some k_ ≠ (v593 : Value).ownBlock ∧ some k_ ≠ (v12 : Value).ownBlock ∧ k_ ≠ gb580) v11 x11_1) ∧ Aside0 (Kd.N (Kd.slice 61 k61) 40 w' w.heap.size (fun k_ => some k_ ≠ ((.slice Ao17 t581.length co17) : Value).ownBlock ∧ some k_ ≠ (v593 : Value).ownBlock ∧ some k_ ≠ (v11 : Value).ownBlock ∧ k_ ≠ gb580) v12 x12_1) ∧ Aside0 (w'.heap[gb580]? = some (.cells #[.int .u8 a1_0, .int .u8 a1_1] 69 (0, 0))) ∧ Aside0 (Below w.heap.size w w'))
    case atStart => exact ⟨(([] : List (List (S61)))), (([] : List (List (S61)))), (0), (by first | rfl | (simp; done) | (simp [*]; done)), H', ⟨Nat.le_refl _⟩, ⟨by (with_reducible repeat (first | apply Kd.N_alloc | apply Kd.N_drewN | apply Kd.N_drew)); exact Kd.N_mono HO583.out (fun _ hk => ⟨hk.2, ⟨(by simp [Value.ownBlock]), ⟨(by simp [Value.ownBlock]), hk.1.1⟩⟩⟩)⟩, ⟨by (with_reducible repeat (first | apply Kd.V_alloc | apply Kd.V_drewN | apply Kd.V_drew)); exact Kd.V_mono HO591.out (fun _ hk => ⟨hk.1.1.2, ⟨hk.2, ⟨(by simp [Value.ownBlock]), ⟨(by simp [Value.ownBlock]), hk.1.2⟩⟩⟩⟩)⟩, ⟨by (with_reducible repeat (first | apply Kd.N_alloc | apply Kd.N_drewN | apply Kd.N_drew)); exact Kd.N_mono HO594.out (fun _ hk => ⟨hk.1, ⟨(by simp [Value.ownBlock]), ⟨(by simp [Value.ownBlock]), hk.2.2⟩⟩⟩)⟩, ⟨by first | exact Kd.S_nil _ _ _ _ _ | exact Kd.N_nil _ _ _ _ _ | exact Kd.V_nil _ _ _ _ _ | exact Kd.Q_nil _ _ _ _ _ | exact Kd.R_nil _ _ _ _ _⟩, ⟨by first | exact Kd.S_nil _ _ _ _ _ | exact Kd.N_nil _ _ _ _ _ | exact Kd.V_nil _ _ _ _ _ | exact Kd.Q_nil _ _ _ _ _ | exact Kd.R_nil _ _ _ _ _⟩, ⟨by (with_reducible repeat (first | refine zN ?_ _ | refine zD ?_ | refine zA ?_ _)); exact BK580.out⟩, ⟨by repeat (first | (with_reducible first | exact HB.out | apply yA | apply yN | apply yD | refine below_set ?_ GE580.out) | exact HB.out)⟩⟩
    case round => as_aux_lemma =>
     clear H'
     try clear c1
     try clear q1
     try clear p2
     try clear c3
     try clear c6
     try clear c6b0
     try clear c6b1
     try clear p6
     try clear c7
     try clear c7b0
     try clear c7b1
     try clear c9
     try clear c9b0
     try clear c9b1
     try clear c11
     try clear q15
     try clear hcz12_0
     try clear hcz12_1
     try clear hfz12_0
     try clear hfz12_1
     try clear q15
     obtain ⟨x11_1, x12_1, x13_1, rfl, HA, HK1, HO_7, HO_8, HO_9, HO_11, HO_12, BK580, HB⟩ := hrel
     cases gk with
     | zero => exact absurd HA.out (by simp [tacticianlaw02_RowsApart.l0])
     | succ k1 =>
      have H := HA.out
      clear HA
      simp only [tacticianlaw02_RowsApart.l0] at H
      by_cases c19 : x13_1 < (t592.length : Int)
      ·rw [if_pos c19] at H
       have c19b0 : decide (x13_1 < (t592.length : Int)) = true := decide_eq_true c19
       clear c19
       have HC20 := Aside0.mk H
       clear H
       obtain ⟨Ao21, co21, eo21⟩ := Kd.N_slice HO_9.out
       subst eo21
       go_upto_region 10 with (fail)
       go_cut [61] (fun v61 wc => ∃ (kq : Nat) (x61_19 : Bool), v61 = .bool x61_19 ∧ Aside0 (tacticianlaw02_RowsApart.j1 kq t581 y587 t592 x11_1 x12_1 x13_1 x61_19 = some r) ∧ Aside0 (kq ≤ k1) ∧ Aside0 (Kd.N (Kd.slice 61 k61) 40 wc w.heap.size (fun k_ => some k_ ≠ ((.slice Ao21 t592.length co21) : Value).ownBlock ∧ some k_ ≠ (u11 : Value).ownBlock ∧ some k_ ≠ (u12 : Value).ownBlock ∧ k_ ≠ gb580) (.slice Ao17 t581.length co17) t581) ∧ Aside0 (Kd.V (Kd.int .i64) 3 wc w.heap.size (fun k_ => some k_ ≠ ((.slice Ao17 t581.length co17) : Value).ownBlock ∧ some k_ ≠ ((.slice Ao21 t592.length co21) : Value).ownBlock ∧ some k_ ≠ (u11 : Value).ownBlock ∧ some k_ ≠ (u12 : Value).ownBlock ∧ k_ ≠ gb580) (.slice Ao16 y587.length co16) y587) ∧ Aside0 (Kd.N (Kd.slice 40 (Kd.slice 61 k61)) 22 wc w.heap.size (fun k_ => some k_ ≠ ((.slice Ao17 t581.length co17) : Value).ownBlock ∧ some k_ ≠ (u11 : Value).ownBlock ∧ some k_ ≠ (u12 : Value).ownBlock ∧ k_ ≠ gb580) (.slice Ao21 t592.length co21) t592) ∧ Aside0 (Kd.N (Kd.slice 61 k61) 40 wc w.heap.size (fun k_ => some k_ ≠ ((.slice Ao17 t581.length co17) : Value).ownBlock ∧ some k_ ≠ ((.slice Ao21 t592.length co21) : Value).ownBlock ∧ some k_ ≠ (u12 : Value).ownBlock ∧ k_ ≠ gb580) u11 x11_1) ∧ Aside0 (Kd.N (Kd.slice 61 k61) 40 wc w.heap.size (fun k_ => some k_ ≠ ((.slice Ao17 t581.length co17) : Value).ownBlock ∧ some k_ ≠ ((.slice Ao21 t592.length co21) : Value).ownBlock ∧ some k_ ≠ (u11 : Value).ownBlock ∧ k_ ≠ gb580) u12 x12_1) ∧ Aside0 (wc.heap[gb580]? = some (.cells #[.int .u8 a1_0, .int .u8 a1_1] 69 (0, 0))) ∧ Aside0 (Below w.heap.size w wc))
       case first => as_aux_lemma =>
        have H := HC20.out
        clear HC20
        by_cases c22 : 0 ≤ x13_1
        ·rw [if_pos c22] at H
         have c22b0 : decide (0 ≤ x13_1) = true := decide_eq_true c22
         clear c22
         (first | rw [c22b0] | (simp only [i64_w, i32_w]; rw [c22b0]) | skip)
         by_cases c23 : ((rd_L4 t592 x13_1).length : Int) = 0
         ·rw [if_pos c23] at H
          have c23b0 : (((rd_L4 t592 x13_1).length : Int) == 0) = true := beq_iff_eq.mpr c23
          have c23b1 : (((rd_L4 t592 x13_1).length : Int) != 0) = false := bne_eq_false_iff_eq.mpr c23
          clear c23
          have H' := Aside0.mk H
          clear H
          have p599 : 0 ≤ (x13_1 : Int) := of_decide_eq_true (by first | (with_reducible assumption) | assumption)
          have q599 : x13_1 < (t592.length : Int) := of_decide_eq_true (by first | (with_reducible assumption) | assumption)
          obtain ⟨ad599, A599_0, c599_0, e599, hx599_0, hl599_0, hi599_0⟩ := at_L4 (Kd.N_reads' HO_9.out).2.2 x13_1 p599 q599
          cases e599
          obtain ⟨ce599, hce599, hMe599, hcc599⟩ := Kd.N_get HO_9.out [] x13_1 p599 (by first | exact q599 | exact of_decide_eq_true (by first | (with_reducible assumption) | assumption) | (have e_ := (Kd.N_reads' HO_9.out).1; omega))
          obtain ⟨ua599_0, uc599_0, rfl, ul599_0, ge599_0⟩ := Kd.FK_slice_open hMe599
          have hv599_0 := hcc599 0 _ rfl
          rw [Nat.add_zero, show ((Kd.slice 40 (Kd.slice 61 k61))).sz = 1 from rfl, Nat.mul_one] at hv599_0
          replace hv599_0 := Option.some.inj (hv599_0.symm.trans hx599_0)
          injection hv599_0 with hva_ hvn_ hvc_
          rw [hva_] at ge599_0
          rw [hvc_] at ul599_0
          have HL599_0 := Aside0.mk (show Kd.V (Kd.slice 61 k61) 40 _ w.heap.size _ _ (rd_L4 t592 x13_1) from Kd.V_mk ul599_0 ge599_0)
          clear hva_ hvn_ hvc_ ge599_0 ul599_0
          clear hcc599 hce599
          have HR599_0 := Aside0.mk hi599_0
          have HC599_0 := Aside0.mk hl599_0
          clear hi599_0 hl599_0
          replace p599 := eq_true p599
          replace q599 := eq_true q599
          go_wp2
          go_meet
          case rel => exact ⟨_, (true), (by first | rfl | (simp; done) | (simp [*]; done)), H', ⟨by have := HK1.out; first | omega | exact Nat.le_refl _⟩, ⟨by (with_reducible repeat (first | apply Kd.N_alloc | apply Kd.N_drewN | apply Kd.N_drew)); exact HO_7.out⟩, ⟨by (with_reducible repeat (first | apply Kd.V_alloc | apply Kd.V_drewN | apply Kd.V_drew)); exact HO_8.out⟩, ⟨by (with_reducible repeat (first | apply Kd.N_alloc | apply Kd.N_drewN | apply Kd.N_drew)); exact HO_9.out⟩, ⟨by (with_reducible repeat (first | apply Kd.N_alloc | apply Kd.N_drewN | apply Kd.N_drew)); exact HO_11.out⟩, ⟨by (with_reducible repeat (first | apply Kd.N_alloc | apply Kd.N_drewN | apply Kd.N_drew)); exact HO_12.out⟩, ⟨by (with_reducible repeat (first | refine zN ?_ _ | refine zD ?_ | refine zA ?_ _)); exact BK580.out⟩, ⟨by repeat (first | (with_reducible first | exact HB.out | apply yA | apply yN | apply yD | refine below_set ?_ GE580.out) | exact HB.out)⟩⟩
         ·rw [if_neg c23] at H
          have c23b0 : (((rd_L4 t592 x13_1).length : Int) == 0) = false := beq_eq_false_iff_ne.mpr c23
          have c23b1 : (((rd_L4 t592 x13_1).length : Int) != 0) = true := bne_iff_ne.mpr c23
          have c23b2 : ¬ ((rd_L4 t592 x13_1) = []) := fun h_ => c23 (by rw [h_]; rfl)
          replace H := Option.bind_eq_some_iff.mp H
          obtain ⟨t601, A240, H⟩ := H
          replace H : (tacticianlaw02_RowsApart.j1 k1 t581 y587 t592 x11_1 x12_1 x13_1 (!t601)) = some r := H
          have A24 := Aside0.mk A240
          clear A240
          have H' := Aside0.mk H
          clear H
          have p599 : 0 ≤ (x13_1 : Int) := of_decide_eq_true (by first | (with_reducible assumption) | assumption)
          have q599 : x13_1 < (t592.length : Int) := of_decide_eq_true (by first | (with_reducible assumption) | assumption)
          obtain ⟨ad599, A599_0, c599_0, e599, hx599_0, hl599_0, hi599_0⟩ := at_L4 (Kd.N_reads' HO_9.out).2.2 x13_1 p599 q599
          cases e599
          obtain ⟨ce599, hce599, hMe599, hcc599⟩ := Kd.N_get HO_9.out [] x13_1 p599 (by first | exact q599 | exact of_decide_eq_true (by first | (with_reducible assumption) | assumption) | (have e_ := (Kd.N_reads' HO_9.out).1; omega))
          obtain ⟨ua599_0, uc599_0, rfl, ul599_0, ge599_0⟩ := Kd.FK_slice_open hMe599
          have hv599_0 := hcc599 0 _ rfl
          rw [Nat.add_zero, show ((Kd.slice 40 (Kd.slice 61 k61))).sz = 1 from rfl, Nat.mul_one] at hv599_0
          replace hv599_0 := Option.some.inj (hv599_0.symm.trans hx599_0)
          injection hv599_0 with hva_ hvn_ hvc_
          rw [hva_] at ge599_0
          rw [hvc_] at ul599_0
          have HL599_0 := Aside0.mk (show Kd.V (Kd.slice 61 k61) 40 _ w.heap.size _ _ (rd_L4 t592 x13_1) from Kd.V_mk ul599_0 ge599_0)
          clear hva_ hvn_ hvc_ ge599_0 ul599_0
          clear hcc599 hce599
          have HR599_0 := Aside0.mk hi599_0
          have HC599_0 := Aside0.mk hl599_0
          clear hi599_0 hl599_0
          replace p599 := eq_true p599
          replace q599 := eq_true q599
          have p600 : 0 ≤ (x13_1 : Int) := of_decide_eq_true (by first | (with_reducible assumption) | assumption)
          have q600 : x13_1 < (t592.length : Int) := of_decide_eq_true (by first | (with_reducible assumption) | assumption)
          obtain ⟨ad600, A600_0, c600_0, e600, hx600_0, hl600_0, hi600_0⟩ := at_L4 (Kd.N_reads' HO_9.out).2.2 x13_1 p600 q600
          obtain rfl : ad599 = ad600 := (by injection e600)
          obtain ⟨ce600, hce600, hMe600, hcc600⟩ := Kd.N_get HO_9.out [] x13_1 p600 (by first | exact q600 | exact of_decide_eq_true (by first | (with_reducible assumption) | assumption) | (have e_ := (Kd.N_reads' HO_9.out).1; omega))
          obtain ⟨ua600_0, uc600_0, rfl, ul600_0, ge600_0⟩ := Kd.FK_slice_open hMe600
          have hv600_0 := hcc600 0 _ rfl
          rw [Nat.add_zero, show ((Kd.slice 40 (Kd.slice 61 k61))).sz = 1 from rfl, Nat.mul_one] at hv600_0
          replace hv600_0 := Option.some.inj (hv600_0.symm.trans hx600_0)
          injection hv600_0 with hva_ hvn_ hvc_
          rw [hva_] at ge600_0
          rw [hvc_] at ul600_0
          have HL600_0 := Aside0.mk (show Kd.V (Kd.slice 61 k61) 40 _ w.heap.size _ _ (rd_L4 t592 x13_1) from Kd.V_mk ul600_0 ge600_0)
          clear hva_ hvn_ hvc_ ge600_0 ul600_0
          clear hcc600 hce600
          have HR600_0 := Aside0.mk hi600_0
          have HC600_0 := Aside0.mk hl600_0
          clear hi600_0 hl600_0
          replace p600 := eq_true p600
          replace q600 := eq_true q600
          have ea_ := Option.some.inj (hx599_0.symm.trans hx600_0)
          injection ea_ with ea_ en_ ec_
          subst ea_
          subst ec_
          clear en_
          go_wp2_with (first | (go_at_call 23; (with_reducible refine (tacticianref02_Places.calls k1 _ _ (rd_L4 t592 x13_1) _ _ y587 t601 _ ?side1 ?side2 ?side3 ?side4 A24.out).mono ?_); (case side1 => repeat (first | exact (by repeat (first | (with_reducible exact HR600_0.out) | (with_reducible refine Kd.C_alloc ?_ _) | (with_reducible refine Kd.C_drewN ?_ _) | (with_reducible refine Kd.C_drew ?_) | exact HR600_0.out)) | (with_reducible refine Kd.C_alloc ?_ _) | (with_reducible refine Kd.C_drewN ?_ _) | (with_reducible refine Kd.C_drew ?_))); (case side2 => exact HC600_0.out); (case side3 => repeat (first | exact (Kd.V_reads' HO_8.out).2.2 | (with_reducible refine Kd.C_alloc ?_ _) | (with_reducible refine Kd.C_drewN ?_ _) | (with_reducible refine Kd.C_drew ?_))); (case side4 => exact (Kd.V_reads' HO_8.out).2.1); rintro e w' ⟨rfl, ⟨nd, rfl⟩⟩))
          go_meet
          case rel => exact ⟨_, (!t601), (by first | rfl | (simp; done) | (simp [*]; done)), H', ⟨by have := HK1.out; first | omega | exact Nat.le_refl _⟩, ⟨by (with_reducible repeat (first | apply Kd.N_alloc | apply Kd.N_drewN | apply Kd.N_drew)); exact HO_7.out⟩, ⟨by (with_reducible repeat (first | apply Kd.V_alloc | apply Kd.V_drewN | apply Kd.V_drew)); exact HO_8.out⟩, ⟨by (with_reducible repeat (first | apply Kd.N_alloc | apply Kd.N_drewN | apply Kd.N_drew)); exact HO_9.out⟩, ⟨by (with_reducible repeat (first | apply Kd.N_alloc | apply Kd.N_drewN | apply Kd.N_drew)); exact HO_11.out⟩, ⟨by (with_reducible repeat (first | apply Kd.N_alloc | apply Kd.N_drewN | apply Kd.N_drew)); exact HO_12.out⟩, ⟨by (with_reducible repeat (first | refine zN ?_ _ | refine zD ?_ | refine zA ?_ _)); exact BK580.out⟩, ⟨by repeat (first | (with_reducible first | exact HB.out | apply yA | apply yN | apply yD | refine below_set ?_ GE580.out) | exact HB.out)⟩⟩
        ·rw [if_neg c22] at H
         exact absurd H (by simp)
       case rest => as_aux_lemma =>
        clear HC20
        try clear c1
        try clear q1
        try clear c2
        try clear p2
        try clear c3
        try clear c5
        try clear p5
        try clear q5
        try clear hx5
        try clear c6
        try clear c6b0
        try clear c6b1
        try clear p6
        try clear q6
        try clear hx6
        try clear c7
        try clear c7b0
        try clear c7b1
        try clear c9
        try clear c9b0
        try clear c9b1
        try clear c11
        try clear q15
        try clear c19
        try clear c19b0
        try clear c22
        try clear c22b0
        try clear c23
        try clear c23b0
        try clear c23b1
        try clear c23b2
        try clear hcz12_0
        try clear hcz12_1
        try clear hfz12_0
        try clear hfz12_1
        try clear hx599_0
        try clear hx600_0
        try clear p2
        try clear p599
        try clear p6
        try clear p600
        try clear q1
        try clear q15
        try clear q599
        try clear q600
        obtain ⟨kq, x61_19, rfl, HA, HJ19, HO_7, HO_8, HO_9, HO_11, HO_12, BK580, HB⟩ := hcut
        cases kq with
        | zero => exact absurd HA.out (by simp [tacticianlaw02_RowsApart.j1])
        | succ kj19 =>
         have H := HA.out
         clear HA
         simp only [tacticianlaw02_RowsApart.j1] at H
         by_cases c25 : x61_19 = true
         ·subst c25
          have H1 : (some false) = some r := by rw [if_pos rfl] at H; exact H
          clear H
          have H := H1
          clear H1
          exact absurd ((Option.some.inj H).trans hr_.out) (by decide)
         ·replace c25 := Bool.eq_false_iff.mpr c25
          subst c25
          have H1 : (if 0 ≤ x13_1 then (if x13_1 < (t592.length : Int) then (if 0 < ((rd_L4 t592 x13_1).length : Int) then ((tacticianref02_At.f kj19 (rd_L3 (rd_L4 t592 x13_1) 0) y587).bind fun t604 => (tacticianlaw02_RowsApart.l1 kj19 t581 y587 t592 x11_1 x12_1 x13_1 t604 0)) else (none)) else (none)) else (none)) = some r := by rw [if_neg (show ¬ (false = true) by decide)] at H; exact H
          clear H
          have H := H1
          clear H1
          by_cases c26 : 0 ≤ x13_1
          ·rw [if_pos c26] at H
           have c26b0 : decide (0 ≤ x13_1) = true := decide_eq_true c26
           clear c26
           by_cases c27 : x13_1 < (t592.length : Int)
           ·rw [if_pos c27] at H
            have c27b0 : decide (x13_1 < (t592.length : Int)) = true := decide_eq_true c27
            clear c27
            by_cases c28 : 0 < ((rd_L4 t592 x13_1).length : Int)
            ·rw [if_pos c28] at H
             have c28b0 : decide (0 < ((rd_L4 t592 x13_1).length : Int)) = true := decide_eq_true c28
             have c28b1 : decide (0 < (rd_L4 t592 x13_1).length) = true := decide_eq_true (by omega)
             clear c28
             replace H := Option.bind_eq_some_iff.mp H
             obtain ⟨t604, A290, H⟩ := H
             replace H : (tacticianlaw02_RowsApart.l1 kj19 t581 y587 t592 x11_1 x12_1 x13_1 t604 0) = some r := H
             have A29 := Aside0.mk A290
             clear A290
             have H' := Aside0.mk H
             clear H
             have p602 : 0 ≤ (x13_1 : Int) := of_decide_eq_true (by first | (with_reducible assumption) | assumption)
             have q602 : x13_1 < (t592.length : Int) := of_decide_eq_true (by first | (with_reducible assumption) | assumption)
             obtain ⟨ad602, A602_0, c602_0, e602, hx602_0, hl602_0, hi602_0⟩ := at_L4 (Kd.N_reads' HO_9.out).2.2 x13_1 p602 q602
             cases e602
             obtain ⟨ce602, hce602, hMe602, hcc602⟩ := Kd.N_get HO_9.out [] x13_1 p602 (by first | exact q602 | exact of_decide_eq_true (by first | (with_reducible assumption) | assumption) | (have e_ := (Kd.N_reads' HO_9.out).1; omega))
             obtain ⟨ua602_0, uc602_0, rfl, ul602_0, ge602_0⟩ := Kd.FK_slice_open hMe602
             have hv602_0 := hcc602 0 _ rfl
             rw [Nat.add_zero, show ((Kd.slice 40 (Kd.slice 61 k61))).sz = 1 from rfl, Nat.mul_one] at hv602_0
             replace hv602_0 := Option.some.inj (hv602_0.symm.trans hx602_0)
             injection hv602_0 with hva_ hvn_ hvc_
             rw [hva_] at ge602_0
             rw [hvc_] at ul602_0
             have HL602_0 := Aside0.mk (show Kd.V (Kd.slice 61 k61) 40 _ w.heap.size _ _ (rd_L4 t592 x13_1) from Kd.V_mk ul602_0 ge602_0)
             clear hva_ hvn_ hvc_ ge602_0 ul602_0
             clear hcc602 hce602
             have HR602_0 := Aside0.mk hi602_0
             have HC602_0 := Aside0.mk hl602_0
             clear hi602_0 hl602_0
             replace p602 := eq_true p602
             replace q602 := eq_true q602
             have p603 : 0 ≤ (0 : Int) := (by omega)
             have q603 : 0 < ((rd_L4 t592 x13_1).length : Int) := of_decide_eq_true (by first | (with_reducible assumption) | assumption)
             obtain ⟨ad603, A603_0, c603_0, e603, hx603_0, hl603_0, hi603_0⟩ := at_L3 (by repeat (first | (with_reducible exact HR602_0.out) | (with_reducible refine Kd.C_alloc ?_ _) | (with_reducible refine Kd.C_drewN ?_ _) | (with_reducible refine Kd.C_drew ?_) | exact HR602_0.out)) 0 p603 q603
             cases e603
             obtain ⟨ce603, hce603, hMe603, hcc603⟩ := Kd.V_get HL602_0.out [] 0 p603 (by first | exact q603 | exact of_decide_eq_true (by first | (with_reducible assumption) | assumption) | (have e_ := (Kd.V_reads' HL602_0.out).1; omega))
             obtain ⟨ua603_0, uc603_0, rfl, ul603_0, ge603_0⟩ := Kd.FK_slice_open hMe603
             have hv603_0 := hcc603 0 _ rfl
             rw [Nat.add_zero, show ((Kd.slice 61 k61)).sz = 1 from rfl, Nat.mul_one] at hv603_0
             replace hv603_0 := Option.some.inj (hv603_0.symm.trans hx603_0)
             injection hv603_0 with hva_ hvn_ hvc_
             rw [hva_] at ge603_0
             rw [hvc_] at ul603_0
             have HL603_0 := Aside0.mk (show Kd.V k61 61 _ w.heap.size _ _ (rd_L3 (rd_L4 t592 x13_1) 0) from Kd.V_mk ul603_0 ge603_0)
             clear hva_ hvn_ hvc_ ge603_0 ul603_0
             clear hcc603 hce603
             have qi603 : (0 < (rd_L4 t592 x13_1).length) = True := eq_true (by omega)
             (try rw [show ((0 : Int)).toNat = 0 from rfl] at hx603_0)
             (try rw [Addr.add_zero'] at hx603_0)
             have HR603_0 := Aside0.mk hi603_0
             have HC603_0 := Aside0.mk hl603_0
             clear hi603_0 hl603_0
             replace p603 := eq_true p603
             replace q603 := eq_true q603
             go_wp2_with (first | ((with_reducible refine gate_callee (f := 47) rfl ?_); refine goesL_ (some 69) rfl rfl Tryz.func47 (by kernel_rfl) rfl #[.slice A603_0 (rd_L3 (rd_L4 t592 x13_1) 0).length c603_0, .slice Ao16 y587.length co16] rfl (by (try simp only [List.map_toArray, List.map_cons, List.map_nil]); first | done | rfl | (simp only [List.length_drop, List.length_take]; rfl)) ?_; (with_reducible refine (tacticianref02_At.calls kj19 _ _ (rd_L3 (rd_L4 t592 x13_1) 0) _ _ y587 t604 _ ?side1 ?side2 ?side3 ?side4 A29.out).mono ?_); (case side1 => repeat (first | exact (by repeat (first | (with_reducible exact HR603_0.out) | (with_reducible refine Kd.C_alloc ?_ _) | (with_reducible refine Kd.C_drewN ?_ _) | (with_reducible refine Kd.C_drew ?_) | exact HR603_0.out)) | (with_reducible refine Kd.C_alloc ?_ _) | (with_reducible refine Kd.C_drewN ?_ _) | (with_reducible refine Kd.C_drew ?_))); (case side2 => exact HC603_0.out); (case side3 => repeat (first | exact (Kd.V_reads' HO_8.out).2.2 | (with_reducible refine Kd.C_alloc ?_ _) | (with_reducible refine Kd.C_drewN ?_ _) | (with_reducible refine Kd.C_drew ?_))); (case side4 => exact (Kd.V_reads' HO_8.out).2.1); rintro e w30 ⟨v605, rfl, ho0, hb⟩; refine ⟨_, rfl, ?_⟩; have n0_ := Aside0.mk (Kd.N_elder' (by (with_reducible repeat (first | apply Kd.N_alloc | apply Kd.N_drewN | apply Kd.N_drew)); exact HO_7.out) (Kd.R_base ho0) hb); have n1_ := Aside0.mk (Kd.V_elder' (by (with_reducible repeat (first | apply Kd.V_alloc | apply Kd.V_drewN | apply Kd.V_drew)); exact HO_8.out) (Kd.R_base ho0) hb); have n2_ := Aside0.mk (Kd.N_elder' (by (with_reducible repeat (first | apply Kd.N_alloc | apply Kd.N_drewN | apply Kd.N_drew)); exact HO_9.out) (Kd.R_base ho0) hb); have n3_ := Aside0.mk (Kd.N_elder' (by (with_reducible repeat (first | apply Kd.N_alloc | apply Kd.N_drewN | apply Kd.N_drew)); exact HO_11.out) (Kd.R_base ho0) hb); have n4_ := Aside0.mk (Kd.N_elder' (by (with_reducible repeat (first | apply Kd.N_alloc | apply Kd.N_drewN | apply Kd.N_drew)); exact HO_12.out) (Kd.R_base ho0) hb); have n5_ := Aside0.mk (Kd.V_elder' (by (with_reducible repeat (first | apply Kd.V_alloc | apply Kd.V_drewN | apply Kd.V_drew)); exact HL602_0.out) (Kd.R_base ho0) hb); have n6_ := Aside0.mk (Kd.V_elder' (by (with_reducible repeat (first | apply Kd.V_alloc | apply Kd.V_drewN | apply Kd.V_drew)); exact HL603_0.out) (Kd.R_base ho0) hb); have n7_ := Aside0.mk (Kd.R_lower ho0 (below_size (by repeat (first | (with_reducible first | exact HB.out | apply yA | apply yN | apply yD | refine below_set ?_ GE580.out) | exact HB.out)))); have n8_ := Aside0.mk (blk_below (g := gb580) (o := .cells #[.int .u8 a1_0, .int .u8 a1_1] 69 (0, 0)) (by (with_reducible repeat (first | refine zN ?_ _ | refine zD ?_ | refine zA ?_ _)); exact BK580.out) hb); have n9_ := Aside0.mk (Kd.C_below (by repeat (first | (with_reducible exact HR602_0.out) | (with_reducible refine Kd.C_alloc ?_ _) | (with_reducible refine Kd.C_drewN ?_ _) | (with_reducible refine Kd.C_drew ?_) | exact HR602_0.out)) hb); have n10_ := Aside0.mk (Kd.C_below (by repeat (first | (with_reducible exact HR603_0.out) | (with_reducible refine Kd.C_alloc ?_ _) | (with_reducible refine Kd.C_drewN ?_ _) | (with_reducible refine Kd.C_drew ?_) | exact HR603_0.out)) hb); have n11_ := Aside0.mk (below_step (by repeat (first | (with_reducible first | exact HB.out | apply yA | apply yN | apply yD | refine below_set ?_ GE580.out) | exact HB.out)) hb); clear HO_7; clear HO_8; clear HO_9; clear HO_11; clear HO_12; clear HL602_0; clear HL603_0; clear BK580; clear HR602_0; clear HR603_0; clear HB; have HO_7 := n0_; have HO_8 := n1_; have HO_9 := n2_; have HO_11 := n3_; have HO_12 := n4_; have HL602_0 := n5_; have HL603_0 := n6_; have HO606 := n7_; have BK580 := n8_; have HR602_0 := n9_; have HR603_0 := n10_; have HB := n11_; clear n0_ n1_ n2_ n3_ n4_ n5_ n6_ n7_ n8_ n9_ n10_ n11_; (try clear hb); (try clear hb2); (try clear hk); (try clear hi); (try clear ho0)))
             go_loopg [15] kj19 (fun kq v15 w' => ∃ (x15_3 : Int), v15 = .int .i64 x15_3 ∧ Aside0 (tacticianlaw02_RowsApart.l1 kq t581 y587 t592 x11_1 x12_1 x13_1 t604 x15_3 = some r) ∧ Aside0 (kq ≤ kj19) ∧ Aside0 (Kd.N (Kd.slice 61 k61) 40 w' w.heap.size (fun k_ => some k_ ≠ ((.slice (some ad602) t592.length co21) : Value).ownBlock ∧ some k_ ≠ (u11 : Value).ownBlock ∧ some k_ ≠ (u12 : Value).ownBlock ∧ some k_ ≠ (v605 : Value).ownBlock ∧ k_ ≠ gb580) (.slice Ao17 t581.length co17) t581) ∧ Aside0 (Kd.V (Kd.int .i64) 3 w' w.heap.size (fun k_ => some k_ ≠ ((.slice Ao17 t581.length co17) : Value).ownBlock ∧ some k_ ≠ ((.slice (some ad602) t592.length co21) : Value).ownBlock ∧ some k_ ≠ (u11 : Value).ownBlock ∧ some k_ ≠ (u12 : Value).ownBlock ∧ some k_ ≠ (v605 : Value).ownBlock ∧ k_ ≠ gb580) (.slice Ao16 y587.length co16) y587) ∧ Aside0 (Kd.N (Kd.slice 40 (Kd.slice 61 k61)) 22 w' w.heap.size (fun k_ => some k_ ≠ ((.slice Ao17 t581.length co17) : Value).ownBlock ∧ some k_ ≠ (u11 : Value).ownBlock ∧ some k_ ≠ (u12 : Value).ownBlock ∧ some k_ ≠ (v605 : Value).ownBlock ∧ k_ ≠ gb580) (.slice (some ad602) t592.length co21) t592) ∧ Aside0 (Kd.N (Kd.slice 61 k61) 40 w' w.heap.size (fun k_ => some k_ ≠ ((.slice Ao17 t581.length co17) : Value).ownBlock ∧ some k_ ≠ ((.slice (some ad602) t592.length co21) : Value).ownBlock ∧ some k_ ≠ (u12 : Value).ownBlock ∧ some k_ ≠ (v605 : Value).ownBlock ∧ k_ ≠ gb580) u11 x11_1) ∧ Aside0 (Kd.N (Kd.slice 61 k61) 40 w' w.heap.size (fun k_ => some k_ ≠ ((.slice Ao17 t581.length co17) : Value).ownBlock ∧ some k_ ≠ ((.slice (some ad602) t592.length co21) : Value).ownBlock ∧ some k_ ≠ (u11 : Value).ownBlock ∧ some k_ ≠ (v605 : Value).ownBlock ∧ k_ ≠ gb580) u12 x12_1) ∧ Aside0 (Kd.R k61 61 w' w.heap.size (fun _ => True) v605 t604) ∧ Aside0 (w'.heap[gb580]? = some (.cells #[.int .u8 a1_0, .int .u8 a1_1] 69 (0, 0))) ∧ Aside0 (Kd.C (Kd.slice 61 k61) w' (some ad603) (rd_L4 t592 x13_1).length (rd_L4 t592 x13_1)) ∧ Aside0 (Kd.C k61 w' A603_0 (rd_L3 (rd_L4 t592 x13_1) 0).length (rd_L3 (rd_L4 t592 x13_1) 0)) ∧ Aside0 (Below w.heap.size w w'))
             case atStart => exact ⟨(0), (by first | rfl | (simp; done) | (simp [*]; done)), H', ⟨Nat.le_refl _⟩, ⟨by (with_reducible repeat (first | apply Kd.N_alloc | apply Kd.N_drewN | apply Kd.N_drew)); exact Kd.N_mono HO_7.out (fun _ hk => ⟨hk.1.1, ⟨hk.1.2.1, ⟨hk.1.2.2.1, ⟨hk.2, hk.1.2.2.2⟩⟩⟩⟩)⟩, ⟨by (with_reducible repeat (first | apply Kd.V_alloc | apply Kd.V_drewN | apply Kd.V_drew)); exact Kd.V_mono HO_8.out (fun _ hk => ⟨hk.1.1, ⟨hk.1.2.1, ⟨hk.1.2.2.1, ⟨hk.1.2.2.2.1, ⟨hk.2, hk.1.2.2.2.2⟩⟩⟩⟩⟩)⟩, ⟨by (with_reducible repeat (first | apply Kd.N_alloc | apply Kd.N_drewN | apply Kd.N_drew)); exact Kd.N_mono HO_9.out (fun _ hk => ⟨hk.1.1, ⟨hk.1.2.1, ⟨hk.1.2.2.1, ⟨hk.2, hk.1.2.2.2⟩⟩⟩⟩)⟩, ⟨by (with_reducible repeat (first | apply Kd.N_alloc | apply Kd.N_drewN | apply Kd.N_drew)); exact Kd.N_mono HO_11.out (fun _ hk => ⟨hk.1.1, ⟨hk.1.2.1, ⟨hk.1.2.2.1, ⟨hk.2, hk.1.2.2.2⟩⟩⟩⟩)⟩, ⟨by (with_reducible repeat (first | apply Kd.N_alloc | apply Kd.N_drewN | apply Kd.N_drew)); exact Kd.N_mono HO_12.out (fun _ hk => ⟨hk.1.1, ⟨hk.1.2.1, ⟨hk.1.2.2.1, ⟨hk.2, hk.1.2.2.2⟩⟩⟩⟩)⟩, ⟨by (with_reducible repeat (first | apply Kd.R_alloc | apply Kd.R_drewN | apply Kd.R_drew)); exact HO606.out⟩, ⟨by (with_reducible repeat (first | refine zN ?_ _ | refine zD ?_ | refine zA ?_ _)); exact BK580.out⟩, ⟨by repeat (first | (with_reducible exact HR602_0.out) | (with_reducible refine Kd.C_alloc ?_ _) | (with_reducible refine Kd.C_drewN ?_ _) | (with_reducible refine Kd.C_drew ?_) | exact HR602_0.out)⟩, ⟨by repeat (first | (with_reducible exact HR603_0.out) | (with_reducible refine Kd.C_alloc ?_ _) | (with_reducible refine Kd.C_drewN ?_ _) | (with_reducible refine Kd.C_drew ?_) | exact HR603_0.out)⟩, ⟨by repeat (first | (with_reducible first | exact HB.out | apply yA | apply yN | apply yD | refine below_set ?_ GE580.out) | exact HB.out)⟩⟩
             case round => as_aux_lemma =>
              clear H'
              try clear c1
              try clear q1
              try clear c2
              try clear p2
              try clear c3
              try clear c4
              try clear c5
              try clear p5
              try clear q5
              try clear hx5
              try clear c6
              try clear c6b0
              try clear c6b1
              try clear p6
              try clear q6
              try clear hx6
              try clear qi6
              try clear c7
              try clear c7b0
              try clear c7b1
              try clear c9
              try clear c9b0
              try clear c9b1
              try clear c11
              try clear q15
              try clear c19
              try clear c19b0
              try clear c22
              try clear c22b0
              try clear c23
              try clear c23b0
              try clear c23b1
              try clear c23b2
              try clear c25
              try clear c26
              try clear c26b0
              try clear c27
              try clear c27b0
              try clear c28
              try clear c28b0
              try clear c28b1
              try clear hcz12_0
              try clear hcz12_1
              try clear hfz12_0
              try clear hfz12_1
              try clear hx599_0
              try clear hx600_0
              try clear hx602_0
              try clear hx603_0
              try clear p2
              try clear p5
              try clear p599
              try clear p6
              try clear p600
              try clear p602
              try clear p603
              try clear q1
              try clear q15
              try clear q5
              try clear q599
              try clear q6
              try clear q600
              try clear q602
              try clear q603
              obtain ⟨x15_3, rfl, HA, HK3, HO_7, HO_8, HO_9, HO_11, HO_12, HO_14, BK580, HR602_0, HR603_0, HB⟩ := hrel
              cases gk with
              | zero => exact absurd HA.out (by simp [tacticianlaw02_RowsApart.l1])
              | succ k3 =>
               have H := HA.out
               clear HA
               simp only [tacticianlaw02_RowsApart.l1] at H
               by_cases c31 : 0 ≤ x13_1
               ·rw [if_pos c31] at H
                have c31b0 : decide (0 ≤ x13_1) = true := decide_eq_true c31
                clear c31
                by_cases c32 : x13_1 < (t592.length : Int)
                ·rw [if_pos c32] at H
                 have c32b0 : decide (x13_1 < (t592.length : Int)) = true := decide_eq_true c32
                 clear c32
                 by_cases c33 : x15_3 < ((rd_L4 t592 x13_1).length : Int)
                 ·rw [if_pos c33] at H
                  have c33b0 : decide (x15_3 < ((rd_L4 t592 x13_1).length : Int)) = true := decide_eq_true c33
                  clear c33
                  by_cases c34 : 0 ≤ x15_3
                  ·rw [if_pos c34] at H
                   have c34b0 : decide (0 ≤ x15_3) = true := decide_eq_true c34
                   clear c34
                   replace H := Option.bind_eq_some_iff.mp H
                   obtain ⟨t626, A350, H⟩ := H
                   replace H : ((tacticianref02_Compare.f k3 t626 t604).bind fun t629 => (if t629 = 0 then (tacticianlaw02_RowsApart.l1 k3 t581 y587 t592 x11_1 x12_1 x13_1 t604 (wrap64 (x15_3 + 1))) else (some false))) = some r := H
                   have A35 := Aside0.mk A350
                   clear A350
                   replace H := Option.bind_eq_some_iff.mp H
                   obtain ⟨t629, A360, H⟩ := H
                   replace H : (if t629 = 0 then (tacticianlaw02_RowsApart.l1 k3 t581 y587 t592 x11_1 x12_1 x13_1 t604 (wrap64 (x15_3 + 1))) else (some false)) = some r := H
                   have A36 := Aside0.mk A360
                   clear A360
                   by_cases c37 : t629 = 0
                   ·rw [if_pos c37] at H
                    have c37b0 : (t629 == 0) = true := beq_iff_eq.mpr c37
                    have c37b1 : (t629 != 0) = false := bne_eq_false_iff_eq.mpr c37
                    clear c37
                    have H' := Aside0.mk H
                    clear H
                    have p607 : 0 ≤ (x13_1 : Int) := of_decide_eq_true (by first | (with_reducible assumption) | assumption)
                    have q607 : x13_1 < (t592.length : Int) := of_decide_eq_true (by first | (with_reducible assumption) | assumption)
                    obtain ⟨ad607, A607_0, c607_0, e607, hx607_0, hl607_0, hi607_0⟩ := at_L4 (Kd.N_reads' HO_9.out).2.2 x13_1 p607 q607
                    obtain rfl : ad602 = ad607 := (by injection e607)
                    obtain ⟨ce607, hce607, hMe607, hcc607⟩ := Kd.N_get HO_9.out [] x13_1 p607 (by first | exact q607 | exact of_decide_eq_true (by first | (with_reducible assumption) | assumption) | (have e_ := (Kd.N_reads' HO_9.out).1; omega))
                    obtain ⟨ua607_0, uc607_0, rfl, ul607_0, ge607_0⟩ := Kd.FK_slice_open hMe607
                    have hv607_0 := hcc607 0 _ rfl
                    rw [Nat.add_zero, show ((Kd.slice 40 (Kd.slice 61 k61))).sz = 1 from rfl, Nat.mul_one] at hv607_0
                    replace hv607_0 := Option.some.inj (hv607_0.symm.trans hx607_0)
                    injection hv607_0 with hva_ hvn_ hvc_
                    rw [hva_] at ge607_0
                    rw [hvc_] at ul607_0
                    have HL607_0 := Aside0.mk (show Kd.V (Kd.slice 61 k61) 40 _ w.heap.size _ _ (rd_L4 t592 x13_1) from Kd.V_mk ul607_0 ge607_0)
                    clear hva_ hvn_ hvc_ ge607_0 ul607_0
                    clear hcc607 hce607
                    have HR607_0 := Aside0.mk hi607_0
                    have HC607_0 := Aside0.mk hl607_0
                    clear hi607_0 hl607_0
                    replace p607 := eq_true p607
                    replace q607 := eq_true q607
                    have p624 : 0 ≤ (x13_1 : Int) := of_decide_eq_true (by first | (with_reducible assumption) | assumption)
                    have q624 : x13_1 < (t592.length : Int) := of_decide_eq_true (by first | (with_reducible assumption) | assumption)
                    obtain ⟨ad624, A624_0, c624_0, e624, hx624_0, hl624_0, hi624_0⟩ := at_L4 (Kd.N_reads' HO_9.out).2.2 x13_1 p624 q624
                    obtain rfl : ad602 = ad624 := (by injection e624)
                    obtain ⟨ce624, hce624, hMe624, hcc624⟩ := Kd.N_get HO_9.out [] x13_1 p624 (by first | exact q624 | exact of_decide_eq_true (by first | (with_reducible assumption) | assumption) | (have e_ := (Kd.N_reads' HO_9.out).1; omega))
                    obtain ⟨ua624_0, uc624_0, rfl, ul624_0, ge624_0⟩ := Kd.FK_slice_open hMe624
                    have hv624_0 := hcc624 0 _ rfl
                    rw [Nat.add_zero, show ((Kd.slice 40 (Kd.slice 61 k61))).sz = 1 from rfl, Nat.mul_one] at hv624_0
                    replace hv624_0 := Option.some.inj (hv624_0.symm.trans hx624_0)
                    injection hv624_0 with hva_ hvn_ hvc_
                    rw [hva_] at ge624_0
                    rw [hvc_] at ul624_0
                    have HL624_0 := Aside0.mk (show Kd.V (Kd.slice 61 k61) 40 _ w.heap.size _ _ (rd_L4 t592 x13_1) from Kd.V_mk ul624_0 ge624_0)
                    clear hva_ hvn_ hvc_ ge624_0 ul624_0
                    clear hcc624 hce624
                    have HR624_0 := Aside0.mk hi624_0
                    have HC624_0 := Aside0.mk hl624_0
                    clear hi624_0 hl624_0
                    replace p624 := eq_true p624
                    replace q624 := eq_true q624
                    have ea_ := Option.some.inj (hx607_0.symm.trans hx624_0)
                    injection ea_ with ea_ en_ ec_
                    subst ea_
                    subst ec_
                    clear en_
                    have p625 : 0 ≤ (x15_3 : Int) := of_decide_eq_true (by first | (with_reducible assumption) | assumption)
                    have q625 : x15_3 < ((rd_L4 t592 x13_1).length : Int) := of_decide_eq_true (by first | (with_reducible assumption) | assumption)
                    obtain ⟨ad625, A625_0, c625_0, e625, hx625_0, hl625_0, hi625_0⟩ := at_L3 (by repeat (first | (with_reducible exact HR624_0.out) | (with_reducible refine Kd.C_alloc ?_ _) | (with_reducible refine Kd.C_drewN ?_ _) | (with_reducible refine Kd.C_drew ?_) | exact HR624_0.out)) x15_3 p625 q625
                    cases e625
                    obtain ⟨ce625, hce625, hMe625, hcc625⟩ := Kd.V_get HL624_0.out [] x15_3 p625 (by first | exact q625 | exact of_decide_eq_true (by first | (with_reducible assumption) | assumption) | (have e_ := (Kd.V_reads' HL624_0.out).1; omega))
                    obtain ⟨ua625_0, uc625_0, rfl, ul625_0, ge625_0⟩ := Kd.FK_slice_open hMe625
                    have hv625_0 := hcc625 0 _ rfl
                    rw [Nat.add_zero, show ((Kd.slice 61 k61)).sz = 1 from rfl, Nat.mul_one] at hv625_0
                    replace hv625_0 := Option.some.inj (hv625_0.symm.trans hx625_0)
                    injection hv625_0 with hva_ hvn_ hvc_
                    rw [hva_] at ge625_0
                    rw [hvc_] at ul625_0
                    have HL625_0 := Aside0.mk (show Kd.V k61 61 _ w.heap.size _ _ (rd_L3 (rd_L4 t592 x13_1) x15_3) from Kd.V_mk ul625_0 ge625_0)
                    clear hva_ hvn_ hvc_ ge625_0 ul625_0
                    clear hcc625 hce625
                    have HR625_0 := Aside0.mk hi625_0
                    have HC625_0 := Aside0.mk hl625_0
                    clear hi625_0 hl625_0
                    replace p625 := eq_true p625
                    replace q625 := eq_true q625
                    try clear hx602_0
                    try clear hx602_0
                    go_wp2_with (first | ((with_reducible refine gate_callee (f := 47) rfl ?_); refine goesL_ (some 87) rfl rfl Tryz.func47 (by kernel_rfl) rfl #[.slice A625_0 (rd_L3 (rd_L4 t592 x13_1) x15_3).length c625_0, .slice Ao16 y587.length co16] rfl (by (try simp only [List.map_toArray, List.map_cons, List.map_nil]); first | done | rfl | (simp only [List.length_drop, List.length_take]; rfl)) ?_; (with_reducible refine (tacticianref02_At.calls k3 _ _ (rd_L3 (rd_L4 t592 x13_1) x15_3) _ _ y587 t626 _ ?side1 ?side2 ?side3 ?side4 A35.out).mono ?_); (case side1 => repeat (first | exact (by repeat (first | (with_reducible exact HR625_0.out) | (with_reducible refine Kd.C_alloc ?_ _) | (with_reducible refine Kd.C_drewN ?_ _) | (with_reducible refine Kd.C_drew ?_) | exact HR625_0.out)) | (with_reducible refine Kd.C_alloc ?_ _) | (with_reducible refine Kd.C_drewN ?_ _) | (with_reducible refine Kd.C_drew ?_))); (case side2 => exact HC625_0.out); (case side3 => repeat (first | exact (Kd.V_reads' HO_8.out).2.2 | (with_reducible refine Kd.C_alloc ?_ _) | (with_reducible refine Kd.C_drewN ?_ _) | (with_reducible refine Kd.C_drew ?_))); (case side4 => exact (Kd.V_reads' HO_8.out).2.1); rintro e w38 ⟨v627, rfl, ho0, hb⟩; refine ⟨_, rfl, ?_⟩; have n0_ := Aside0.mk (Kd.N_elder' (by (with_reducible repeat (first | apply Kd.N_alloc | apply Kd.N_drewN | apply Kd.N_drew)); exact HO_7.out) (Kd.R_base ho0) hb); have n1_ := Aside0.mk (Kd.V_elder' (by (with_reducible repeat (first | apply Kd.V_alloc | apply Kd.V_drewN | apply Kd.V_drew)); exact HO_8.out) (Kd.R_base ho0) hb); have n2_ := Aside0.mk (Kd.N_elder' (by (with_reducible repeat (first | apply Kd.N_alloc | apply Kd.N_drewN | apply Kd.N_drew)); exact HO_9.out) (Kd.R_base ho0) hb); have n3_ := Aside0.mk (Kd.N_elder' (by (with_reducible repeat (first | apply Kd.N_alloc | apply Kd.N_drewN | apply Kd.N_drew)); exact HO_11.out) (Kd.R_base ho0) hb); have n4_ := Aside0.mk (Kd.N_elder' (by (with_reducible repeat (first | apply Kd.N_alloc | apply Kd.N_drewN | apply Kd.N_drew)); exact HO_12.out) (Kd.R_base ho0) hb); have n5_ := Aside0.mk (Kd.R_elder' (by (with_reducible repeat (first | apply Kd.R_alloc | apply Kd.R_drewN | apply Kd.R_drew)); exact HO_14.out) (Kd.R_base ho0) hb); have n6_ := Aside0.mk (Kd.V_elder' (by (with_reducible repeat (first | apply Kd.V_alloc | apply Kd.V_drewN | apply Kd.V_drew)); exact HL607_0.out) (Kd.R_base ho0) hb); have n7_ := Aside0.mk (Kd.V_elder' (by (with_reducible repeat (first | apply Kd.V_alloc | apply Kd.V_drewN | apply Kd.V_drew)); exact HL624_0.out) (Kd.R_base ho0) hb); have n8_ := Aside0.mk (Kd.V_elder' (by (with_reducible repeat (first | apply Kd.V_alloc | apply Kd.V_drewN | apply Kd.V_drew)); exact HL625_0.out) (Kd.R_base ho0) hb); have n9_ := Aside0.mk (Kd.R_lower (Kd.R_new' ho0 (Kd.R_lt (by (with_reducible repeat (first | apply Kd.R_alloc | apply Kd.R_drewN | apply Kd.R_drew)); exact HO_14.out))) (below_size (by repeat (first | (with_reducible first | exact HB.out | apply yA | apply yN | apply yD | refine below_set ?_ GE580.out) | exact HB.out)))); have n10_ := Aside0.mk (blk_below (g := gb580) (o := .cells #[.int .u8 a1_0, .int .u8 a1_1] 69 (0, 0)) (by (with_reducible repeat (first | refine zN ?_ _ | refine zD ?_ | refine zA ?_ _)); exact BK580.out) hb); have n11_ := Aside0.mk (Kd.C_below (by repeat (first | (with_reducible exact HR602_0.out) | (with_reducible refine Kd.C_alloc ?_ _) | (with_reducible refine Kd.C_drewN ?_ _) | (with_reducible refine Kd.C_drew ?_) | exact HR602_0.out)) hb); have n12_ := Aside0.mk (Kd.C_below (by repeat (first | (with_reducible exact HR603_0.out) | (with_reducible refine Kd.C_alloc ?_ _) | (with_reducible refine Kd.C_drewN ?_ _) | (with_reducible refine Kd.C_drew ?_) | exact HR603_0.out)) hb); have n13_ := Aside0.mk (Kd.C_below (by repeat (first | (with_reducible exact HR607_0.out) | (with_reducible refine Kd.C_alloc ?_ _) | (with_reducible refine Kd.C_drewN ?_ _) | (with_reducible refine Kd.C_drew ?_) | exact HR607_0.out)) hb); have n14_ := Aside0.mk (Kd.C_below (by repeat (first | (with_reducible exact HR624_0.out) | (with_reducible refine Kd.C_alloc ?_ _) | (with_reducible refine Kd.C_drewN ?_ _) | (with_reducible refine Kd.C_drew ?_) | exact HR624_0.out)) hb); have n15_ := Aside0.mk (Kd.C_below (by repeat (first | (with_reducible exact HR625_0.out) | (with_reducible refine Kd.C_alloc ?_ _) | (with_reducible refine Kd.C_drewN ?_ _) | (with_reducible refine Kd.C_drew ?_) | exact HR625_0.out)) hb); have n16_ := Aside0.mk (below_step (by repeat (first | (with_reducible first | exact HB.out | apply yA | apply yN | apply yD | refine below_set ?_ GE580.out) | exact HB.out)) hb); clear HO_7; clear HO_8; clear HO_9; clear HO_11; clear HO_12; clear HO_14; clear HL607_0; clear HL624_0; clear HL625_0; clear BK580; clear HR602_0; clear HR603_0; clear HR607_0; clear HR624_0; clear HR625_0; clear HB; have HO_7 := n0_; have HO_8 := n1_; have HO_9 := n2_; have HO_11 := n3_; have HO_12 := n4_; have HO_14 := n5_; have HL607_0 := n6_; have HL624_0 := n7_; have HL625_0 := n8_; have HO628 := n9_; have BK580 := n10_; have HR602_0 := n11_; have HR603_0 := n12_; have HR607_0 := n13_; have HR624_0 := n14_; have HR625_0 := n15_; have HB := n16_; clear n0_ n1_ n2_ n3_ n4_ n5_ n6_ n7_ n8_ n9_ n10_ n11_ n12_ n13_ n14_ n15_ n16_; (try clear hb); (try clear hb2); (try clear hk); (try clear hi); (try clear ho0); obtain ⟨Ao39, co39, eo39⟩ := Kd.R_slice HO628.out; subst eo39; obtain ⟨Ao40, co40, eo40⟩ := Kd.R_slice HO_14.out; subst eo40) | ((with_reducible refine gate_callee (f := 29) rfl ?_); refine goesL_ (some 89) rfl rfl Tryz.func29 (by kernel_rfl) rfl #[.slice Ao39 t626.length co39, .slice Ao40 t604.length co40] rfl (by (try simp only [List.map_toArray, List.map_cons, List.map_nil]); first | done | rfl | (simp only [List.length_drop, List.length_take]; rfl)) ?_; (with_reducible refine (tacticianref02_Compare.calls k3 _ _ t626 _ _ t604 t629 _ ?side1 ?side2 ?side3 ?side4 A36.out).mono ?_); (case side1 => repeat (first | exact (Kd.R_reads' HO628.out).2.2 | (with_reducible refine Kd.C_alloc ?_ _) | (with_reducible refine Kd.C_drewN ?_ _) | (with_reducible refine Kd.C_drew ?_))); (case side2 => exact (Kd.R_reads' HO628.out).2.1); (case side3 => repeat (first | exact (Kd.R_reads' HO_14.out).2.2 | (with_reducible refine Kd.C_alloc ?_ _) | (with_reducible refine Kd.C_drewN ?_ _) | (with_reducible refine Kd.C_drew ?_))); (case side4 => exact (Kd.R_reads' HO_14.out).2.1); rintro e w41 ⟨rfl, hb⟩; refine ⟨_, rfl, ?_⟩; have n0_ := Aside0.mk (Kd.N_below (by (with_reducible repeat (first | apply Kd.N_alloc | apply Kd.N_drewN | apply Kd.N_drew)); exact HO_7.out) hb); have n1_ := Aside0.mk (Kd.V_below (by (with_reducible repeat (first | apply Kd.V_alloc | apply Kd.V_drewN | apply Kd.V_drew)); exact HO_8.out) hb); have n2_ := Aside0.mk (Kd.N_below (by (with_reducible repeat (first | apply Kd.N_alloc | apply Kd.N_drewN | apply Kd.N_drew)); exact HO_9.out) hb); have n3_ := Aside0.mk (Kd.N_below (by (with_reducible repeat (first | apply Kd.N_alloc | apply Kd.N_drewN | apply Kd.N_drew)); exact HO_11.out) hb); have n4_ := Aside0.mk (Kd.N_below (by (with_reducible repeat (first | apply Kd.N_alloc | apply Kd.N_drewN | apply Kd.N_drew)); exact HO_12.out) hb); have n5_ := Aside0.mk (Kd.R_below (by (with_reducible repeat (first | apply Kd.R_alloc | apply Kd.R_drewN | apply Kd.R_drew)); exact HO_14.out) hb); have n6_ := Aside0.mk (Kd.V_below (by (with_reducible repeat (first | apply Kd.V_alloc | apply Kd.V_drewN | apply Kd.V_drew)); exact HL607_0.out) hb); have n7_ := Aside0.mk (Kd.V_below (by (with_reducible repeat (first | apply Kd.V_alloc | apply Kd.V_drewN | apply Kd.V_drew)); exact HL624_0.out) hb); have n8_ := Aside0.mk (Kd.V_below (by (with_reducible repeat (first | apply Kd.V_alloc | apply Kd.V_drewN | apply Kd.V_drew)); exact HL625_0.out) hb); have n9_ := Aside0.mk (Kd.R_below (by (with_reducible repeat (first | apply Kd.R_alloc | apply Kd.R_drewN | apply Kd.R_drew)); exact HO628.out) hb); have n10_ := Aside0.mk (blk_below (g := gb580) (o := .cells #[.int .u8 a1_0, .int .u8 a1_1] 69 (0, 0)) (by (with_reducible repeat (first | refine zN ?_ _ | refine zD ?_ | refine zA ?_ _)); exact BK580.out) hb); have n11_ := Aside0.mk (Kd.C_below (by repeat (first | (with_reducible exact HR602_0.out) | (with_reducible refine Kd.C_alloc ?_ _) | (with_reducible refine Kd.C_drewN ?_ _) | (with_reducible refine Kd.C_drew ?_) | exact HR602_0.out)) hb); have n12_ := Aside0.mk (Kd.C_below (by repeat (first | (with_reducible exact HR603_0.out) | (with_reducible refine Kd.C_alloc ?_ _) | (with_reducible refine Kd.C_drewN ?_ _) | (with_reducible refine Kd.C_drew ?_) | exact HR603_0.out)) hb); have n13_ := Aside0.mk (Kd.C_below (by repeat (first | (with_reducible exact HR607_0.out) | (with_reducible refine Kd.C_alloc ?_ _) | (with_reducible refine Kd.C_drewN ?_ _) | (with_reducible refine Kd.C_drew ?_) | exact HR607_0.out)) hb); have n14_ := Aside0.mk (Kd.C_below (by repeat (first | (with_reducible exact HR624_0.out) | (with_reducible refine Kd.C_alloc ?_ _) | (with_reducible refine Kd.C_drewN ?_ _) | (with_reducible refine Kd.C_drew ?_) | exact HR624_0.out)) hb); have n15_ := Aside0.mk (Kd.C_below (by repeat (first | (with_reducible exact HR625_0.out) | (with_reducible refine Kd.C_alloc ?_ _) | (with_reducible refine Kd.C_drewN ?_ _) | (with_reducible refine Kd.C_drew ?_) | exact HR625_0.out)) hb); have n16_ := Aside0.mk (below_step (by repeat (first | (with_reducible first | exact HB.out | apply yA | apply yN | apply yD | refine below_set ?_ GE580.out) | exact HB.out)) hb); clear HO_7; clear HO_8; clear HO_9; clear HO_11; clear HO_12; clear HO_14; clear HL607_0; clear HL624_0; clear HL625_0; clear HO628; clear BK580; clear HR602_0; clear HR603_0; clear HR607_0; clear HR624_0; clear HR625_0; clear HB; have HO_7 := n0_; have HO_8 := n1_; have HO_9 := n2_; have HO_11 := n3_; have HO_12 := n4_; have HO_14 := n5_; have HL607_0 := n6_; have HL624_0 := n7_; have HL625_0 := n8_; have HO628 := n9_; have BK580 := n10_; have HR602_0 := n11_; have HR603_0 := n12_; have HR607_0 := n13_; have HR624_0 := n14_; have HR625_0 := n15_; have HB := n16_; clear n0_ n1_ n2_ n3_ n4_ n5_ n6_ n7_ n8_ n9_ n10_ n11_ n12_ n13_ n14_ n15_ n16_; (try clear hb); (try clear hb2); (try clear hk); (try clear hi)))
                    go_roundg k3
                    case measure => have := HK1.out; have := HJ19.out; have := HK3.out; omega
                    case rel => exact ⟨(wrap64 (x15_3 + 1)), (by first | rfl | (simp; done) | (simp [*]; done)), H', ⟨by have := HK1.out; have := HJ19.out; have := HK3.out; omega⟩, ⟨by (with_reducible repeat (first | apply Kd.N_alloc | apply Kd.N_drewN | apply Kd.N_drew)); exact Kd.N_mono HO_7.out (fun _ hk => ⟨hk.1.1, ⟨hk.1.2.1, ⟨hk.1.2.2.1, ⟨hk.1.2.2.2.1, hk.1.2.2.2.2⟩⟩⟩⟩)⟩, ⟨by (with_reducible repeat (first | apply Kd.V_alloc | apply Kd.V_drewN | apply Kd.V_drew)); exact Kd.V_mono HO_8.out (fun _ hk => ⟨hk.1.1, ⟨hk.1.2.1, ⟨hk.1.2.2.1, ⟨hk.1.2.2.2.1, ⟨hk.1.2.2.2.2.1, hk.1.2.2.2.2.2⟩⟩⟩⟩⟩)⟩, ⟨by (with_reducible repeat (first | apply Kd.N_alloc | apply Kd.N_drewN | apply Kd.N_drew)); exact Kd.N_mono HO_9.out (fun _ hk => ⟨hk.1.1, ⟨hk.1.2.1, ⟨hk.1.2.2.1, ⟨hk.1.2.2.2.1, hk.1.2.2.2.2⟩⟩⟩⟩)⟩, ⟨by (with_reducible repeat (first | apply Kd.N_alloc | apply Kd.N_drewN | apply Kd.N_drew)); exact Kd.N_mono HO_11.out (fun _ hk => ⟨hk.1.1, ⟨hk.1.2.1, ⟨hk.1.2.2.1, ⟨hk.1.2.2.2.1, hk.1.2.2.2.2⟩⟩⟩⟩)⟩, ⟨by (with_reducible repeat (first | apply Kd.N_alloc | apply Kd.N_drewN | apply Kd.N_drew)); exact Kd.N_mono HO_12.out (fun _ hk => ⟨hk.1.1, ⟨hk.1.2.1, ⟨hk.1.2.2.1, ⟨hk.1.2.2.2.1, hk.1.2.2.2.2⟩⟩⟩⟩)⟩, ⟨by (with_reducible repeat (first | apply Kd.R_alloc | apply Kd.R_drewN | apply Kd.R_drew)); exact Kd.R_mono HO_14.out (fun _ hk => trivial)⟩, ⟨by (with_reducible repeat (first | refine zN ?_ _ | refine zD ?_ | refine zA ?_ _)); exact BK580.out⟩, ⟨by repeat (first | (with_reducible exact HR602_0.out) | (with_reducible refine Kd.C_alloc ?_ _) | (with_reducible refine Kd.C_drewN ?_ _) | (with_reducible refine Kd.C_drew ?_) | exact HR602_0.out)⟩, ⟨by repeat (first | (with_reducible exact HR603_0.out) | (with_reducible refine Kd.C_alloc ?_ _) | (with_reducible refine Kd.C_drewN ?_ _) | (with_reducible refine Kd.C_drew ?_) | exact HR603_0.out)⟩, ⟨by repeat (first | (with_reducible first | exact HB.out | apply yA | apply yN | apply yD | refine below_set ?_ GE580.out) | exact HB.out)⟩⟩
                   ·rw [if_neg c37] at H
                    have c37b0 : (t629 == 0) = false := beq_eq_false_iff_ne.mpr c37
                    have c37b1 : (t629 != 0) = true := bne_iff_ne.mpr c37
                    exact absurd ((Option.some.inj H).trans hr_.out) (by decide)
                  ·rw [if_neg c34] at H
                   exact absurd H (by simp)
                 ·rw [if_neg c33] at H
                  have c33b0 : decide (x15_3 < ((rd_L4 t592 x13_1).length : Int)) = false := decide_eq_false c33
                  clear c33
                  by_cases c42 : x13_1 > 0
                  ·rw [if_pos c42] at H
                   have c42b0 : decide (0 < x13_1) = true := decide_eq_true c42
                   clear c42
                   obtain ⟨ji43, hji43⟩ : ∃ j_ : Int, (wrap64 (x13_1 - 1)) = j_ := ⟨_, rfl⟩
                   replace H : (if 0 ≤ (ji43) then (if (ji43) < (x12_1.length : Int) then ((tacticianref02_Compare.f k3 (rd_L3 x12_1 (ji43)) t604).bind fun t609 => (if t609 ≥ 0 then (some false) else (if x12_1.length < 5864062014805 then (if x11_1.length + (rd_L4 t592 x13_1).length < 5864062014805 then (tacticianlaw02_RowsApart.l0 k3 t581 y587 t592 (x11_1 ++ (rd_L4 t592 x13_1)) (x12_1 ++ [t604]) (wrap64 (x13_1 + 1))) else (none)) else (none)))) else (none)) else (none)) = some r := by first | (rw [hji43] at H; exact H) | (simp only [hji43] at H ⊢; exact H)
                   have hji43w : (IntKind.i64.wrap (x13_1 - 1)) = ji43 := (i64_w _).trans hji43
                   by_cases c44 : 0 ≤ (ji43)
                   ·rw [if_pos c44] at H
                    have c44b0 : decide (0 ≤ (ji43)) = true := decide_eq_true c44
                    clear c44
                    by_cases c45 : (ji43) < (x12_1.length : Int)
                    ·rw [if_pos c45] at H
                     have c45b0 : decide ((ji43) < (x12_1.length : Int)) = true := decide_eq_true c45
                     clear c45
                     replace H := Option.bind_eq_some_iff.mp H
                     obtain ⟨t609, A460, H⟩ := H
                     replace H : (if t609 ≥ 0 then (some false) else (if x12_1.length < 5864062014805 then (if x11_1.length + (rd_L4 t592 x13_1).length < 5864062014805 then (tacticianlaw02_RowsApart.l0 k3 t581 y587 t592 (x11_1 ++ (rd_L4 t592 x13_1)) (x12_1 ++ [t604]) (wrap64 (x13_1 + 1))) else (none)) else (none))) = some r := H
                     have A46 := Aside0.mk A460
                     clear A460
                     by_cases c47 : t609 ≥ 0
                     ·rw [if_pos c47] at H
                      have c47b0 : decide (0 ≤ t609) = true := decide_eq_true c47
                      clear c47
                      exact absurd ((Option.some.inj H).trans hr_.out) (by decide)
                     ·rw [if_neg c47] at H
                      have c47b0 : decide (0 ≤ t609) = false := decide_eq_false c47
                      clear c47
                      by_cases c48 : x12_1.length < 5864062014805
                      ·rw [if_pos c48] at H
                       have LMc48 := Aside0.mk c48
                       clear c48
                       obtain ⟨y610, hy610⟩ : ∃ y_ : List (List (S61)), y_ = (x12_1 ++ [t604]) := ⟨_, rfl⟩
                       replace H : (if x11_1.length + (rd_L4 t592 x13_1).length < 5864062014805 then (tacticianlaw02_RowsApart.l0 k3 t581 y587 t592 (x11_1 ++ (rd_L4 t592 x13_1)) y610 (wrap64 (x13_1 + 1))) else (none)) = some r := by first | (rw [hy610]; with_reducible exact H) | (have H2_ := (Option.bind_some _ _).symm.trans H; rw [hy610]; with_reducible exact H2_) | (have H2_ := (Option.bind_some _ _).symm.trans H; with_reducible exact H2_) | with_reducible exact H | (rw [hy610]; exact H) | exact H
                       have Ny610 := Aside0.mk hy610
                       clear hy610
                       by_cases c49 : x11_1.length + (rd_L4 t592 x13_1).length < 5864062014805
                       ·rw [if_pos c49] at H
                        have LMc49 := Aside0.mk c49
                        clear c49
                        obtain ⟨y614, hy614⟩ : ∃ y_ : List (List (S61)), y_ = (x11_1 ++ (rd_L4 t592 x13_1)) := ⟨_, rfl⟩
                        replace H : (tacticianlaw02_RowsApart.l0 k3 t581 y587 t592 y614 y610 (wrap64 (x13_1 + 1))) = some r := by first | (rw [hy614]; with_reducible exact H) | (have H2_ := (Option.bind_some _ _).symm.trans H; rw [hy614]; with_reducible exact H2_) | (have H2_ := (Option.bind_some _ _).symm.trans H; with_reducible exact H2_) | with_reducible exact H | (rw [hy614]; exact H) | exact H
                        have Ny614 := Aside0.mk hy614
                        clear hy614
                        have H' := Aside0.mk H
                        clear H
                        have p607 : 0 ≤ (x13_1 : Int) := of_decide_eq_true (by first | (with_reducible assumption) | assumption)
                        have q607 : x13_1 < (t592.length : Int) := of_decide_eq_true (by first | (with_reducible assumption) | assumption)
                        obtain ⟨ad607, A607_0, c607_0, e607, hx607_0, hl607_0, hi607_0⟩ := at_L4 (Kd.N_reads' HO_9.out).2.2 x13_1 p607 q607
                        obtain rfl : ad602 = ad607 := (by injection e607)
                        obtain ⟨ce607, hce607, hMe607, hcc607⟩ := Kd.N_get HO_9.out [] x13_1 p607 (by first | exact q607 | exact of_decide_eq_true (by first | (with_reducible assumption) | assumption) | (have e_ := (Kd.N_reads' HO_9.out).1; omega))
                        obtain ⟨ua607_0, uc607_0, rfl, ul607_0, ge607_0⟩ := Kd.FK_slice_open hMe607
                        have hv607_0 := hcc607 0 _ rfl
                        rw [Nat.add_zero, show ((Kd.slice 40 (Kd.slice 61 k61))).sz = 1 from rfl, Nat.mul_one] at hv607_0
                        replace hv607_0 := Option.some.inj (hv607_0.symm.trans hx607_0)
                        injection hv607_0 with hva_ hvn_ hvc_
                        rw [hva_] at ge607_0
                        rw [hvc_] at ul607_0
                        have HL607_0 := Aside0.mk (show Kd.V (Kd.slice 61 k61) 40 _ w.heap.size _ _ (rd_L4 t592 x13_1) from Kd.V_mk ul607_0 ge607_0)
                        clear hva_ hvn_ hvc_ ge607_0 ul607_0
                        clear hcc607 hce607
                        have HR607_0 := Aside0.mk hi607_0
                        have HC607_0 := Aside0.mk hl607_0
                        clear hi607_0 hl607_0
                        replace p607 := eq_true p607
                        replace q607 := eq_true q607
                        obtain ⟨Ao50, co50, eo50⟩ := Kd.N_slice HO_12.out
                        subst eo50
                        have p608 : 0 ≤ ((ji43) : Int) := of_decide_eq_true (by first | (with_reducible assumption) | assumption)
                        have q608 : (ji43) < (x12_1.length : Int) := of_decide_eq_true (by first | (with_reducible assumption) | assumption)
                        obtain ⟨ad608, A608_0, c608_0, e608, hx608_0, hl608_0, hi608_0⟩ := at_L3 (Kd.N_reads' HO_12.out).2.2 (ji43) p608 q608
                        cases e608
                        obtain ⟨ce608, hce608, hMe608, hcc608⟩ := Kd.N_get HO_12.out [] (ji43) p608 (by first | exact q608 | exact of_decide_eq_true (by first | (with_reducible assumption) | assumption) | (have e_ := (Kd.N_reads' HO_12.out).1; omega))
                        obtain ⟨ua608_0, uc608_0, rfl, ul608_0, ge608_0⟩ := Kd.FK_slice_open hMe608
                        have hv608_0 := hcc608 0 _ rfl
                        rw [Nat.add_zero, show ((Kd.slice 61 k61)).sz = 1 from rfl, Nat.mul_one] at hv608_0
                        replace hv608_0 := Option.some.inj (hv608_0.symm.trans hx608_0)
                        injection hv608_0 with hva_ hvn_ hvc_
                        rw [hva_] at ge608_0
                        rw [hvc_] at ul608_0
                        have HL608_0 := Aside0.mk (show Kd.V k61 61 _ w.heap.size _ _ (rd_L3 x12_1 (ji43)) from Kd.V_mk ul608_0 ge608_0)
                        clear hva_ hvn_ hvc_ ge608_0 ul608_0
                        clear hcc608 hce608
                        have HR608_0 := Aside0.mk hi608_0
                        have HC608_0 := Aside0.mk hl608_0
                        clear hi608_0 hl608_0
                        replace p608 := eq_true p608
                        replace q608 := eq_true q608
                        obtain ⟨Ao51, co51, eo51⟩ := Kd.R_slice HO_14.out
                        subst eo51
                        try clear hx602_0
                        go_wp2_with (first | (go_at_call 29; (with_reducible refine (tacticianref02_Compare.calls k3 _ _ (rd_L3 x12_1 (ji43)) _ _ t604 t609 _ ?side1 ?side2 ?side3 ?side4 A46.out).mono ?_); (case side1 => repeat (first | exact (by repeat (first | (with_reducible exact HR608_0.out) | (with_reducible refine Kd.C_alloc ?_ _) | (with_reducible refine Kd.C_drewN ?_ _) | (with_reducible refine Kd.C_drew ?_) | exact HR608_0.out)) | (with_reducible refine Kd.C_alloc ?_ _) | (with_reducible refine Kd.C_drewN ?_ _) | (with_reducible refine Kd.C_drew ?_))); (case side2 => exact HC608_0.out); (case side3 => repeat (first | exact (Kd.R_reads' HO_14.out).2.2 | (with_reducible refine Kd.C_alloc ?_ _) | (with_reducible refine Kd.C_drewN ?_ _) | (with_reducible refine Kd.C_drew ?_))); (case side4 => exact (Kd.R_reads' HO_14.out).2.1); rintro e w52 ⟨rfl, hb⟩; have n0_ := Aside0.mk (Kd.N_below (by (with_reducible repeat (first | apply Kd.N_alloc | apply Kd.N_drewN | apply Kd.N_drew)); exact HO_7.out) hb); have n1_ := Aside0.mk (Kd.V_below (by (with_reducible repeat (first | apply Kd.V_alloc | apply Kd.V_drewN | apply Kd.V_drew)); exact HO_8.out) hb); have n2_ := Aside0.mk (Kd.N_below (by (with_reducible repeat (first | apply Kd.N_alloc | apply Kd.N_drewN | apply Kd.N_drew)); exact HO_9.out) hb); have n3_ := Aside0.mk (Kd.N_below (by (with_reducible repeat (first | apply Kd.N_alloc | apply Kd.N_drewN | apply Kd.N_drew)); exact HO_11.out) hb); have n4_ := Aside0.mk (Kd.N_below (by (with_reducible repeat (first | apply Kd.N_alloc | apply Kd.N_drewN | apply Kd.N_drew)); exact HO_12.out) hb); have n5_ := Aside0.mk (Kd.R_below (by (with_reducible repeat (first | apply Kd.R_alloc | apply Kd.R_drewN | apply Kd.R_drew)); exact HO_14.out) hb); have n6_ := Aside0.mk (Kd.V_below (by (with_reducible repeat (first | apply Kd.V_alloc | apply Kd.V_drewN | apply Kd.V_drew)); exact HL607_0.out) hb); have n7_ := Aside0.mk (Kd.V_below (by (with_reducible repeat (first | apply Kd.V_alloc | apply Kd.V_drewN | apply Kd.V_drew)); exact HL608_0.out) hb); have n8_ := Aside0.mk (blk_below (g := gb580) (o := .cells #[.int .u8 a1_0, .int .u8 a1_1] 69 (0, 0)) (by (with_reducible repeat (first | refine zN ?_ _ | refine zD ?_ | refine zA ?_ _)); exact BK580.out) hb); have n9_ := Aside0.mk (Kd.C_below (by repeat (first | (with_reducible exact HR602_0.out) | (with_reducible refine Kd.C_alloc ?_ _) | (with_reducible refine Kd.C_drewN ?_ _) | (with_reducible refine Kd.C_drew ?_) | exact HR602_0.out)) hb); have n10_ := Aside0.mk (Kd.C_below (by repeat (first | (with_reducible exact HR603_0.out) | (with_reducible refine Kd.C_alloc ?_ _) | (with_reducible refine Kd.C_drewN ?_ _) | (with_reducible refine Kd.C_drew ?_) | exact HR603_0.out)) hb); have n11_ := Aside0.mk (Kd.C_below (by repeat (first | (with_reducible exact HR607_0.out) | (with_reducible refine Kd.C_alloc ?_ _) | (with_reducible refine Kd.C_drewN ?_ _) | (with_reducible refine Kd.C_drew ?_) | exact HR607_0.out)) hb); have n12_ := Aside0.mk (Kd.C_below (by repeat (first | (with_reducible exact HR608_0.out) | (with_reducible refine Kd.C_alloc ?_ _) | (with_reducible refine Kd.C_drewN ?_ _) | (with_reducible refine Kd.C_drew ?_) | exact HR608_0.out)) hb); have n13_ := Aside0.mk (below_step (by repeat (first | (with_reducible first | exact HB.out | apply yA | apply yN | apply yD | refine below_set ?_ GE580.out) | exact HB.out)) hb); clear HO_7; clear HO_8; clear HO_9; clear HO_11; clear HO_12; clear HO_14; clear HL607_0; clear HL608_0; clear BK580; clear HR602_0; clear HR603_0; clear HR607_0; clear HR608_0; clear HB; have HO_7 := n0_; have HO_8 := n1_; have HO_9 := n2_; have HO_11 := n3_; have HO_12 := n4_; have HO_14 := n5_; have HL607_0 := n6_; have HL608_0 := n7_; have BK580 := n8_; have HR602_0 := n9_; have HR603_0 := n10_; have HR607_0 := n11_; have HR608_0 := n12_; have HB := n13_; clear n0_ n1_ n2_ n3_ n4_ n5_ n6_ n7_ n8_ n9_ n10_ n11_ n12_ n13_; (try clear hb); (try clear hb2); (try clear hk); (try clear hi)) | ((with_reducible refine gate_builtin (b := .append) (xs := #[.tmp 103, .tmp 105]) rfl ?_); at_builtin; refine Kd.N_append (Kd.slice 61 k61) (w0 := w) w.heap.size rfl (.tmp 103) (.tmp 105) 22 40 (.slice none 0 0) 24 rfl Tryz.underlying22 info40 rfl (by decide) (by omega) (.slice (some ad608) x12_1.length co50) x12_1 t604 [.slice Ao51 t604.length co51] (fun k_ => some k_ ≠ (.slice Ao17 t581.length co17 : Value).ownBlock ∧ some k_ ≠ (.slice (some ad602) t592.length co21 : Value).ownBlock ∧ some k_ ≠ (u11 : Value).ownBlock ∧ k_ ≠ gb580) (fun k_ => ((fun k_ => some k_ ≠ (.slice Ao17 t581.length co17 : Value).ownBlock ∧ some k_ ≠ (.slice (some ad602) t592.length co21 : Value).ownBlock ∧ some k_ ≠ (u11 : Value).ownBlock ∧ k_ ≠ gb580)) k_ ∧ some k_ ≠ (.slice (some ad608) x12_1.length co50 : Value).ownBlock) rfl rfl ?aP (fun _ hk => hk) ?aF ?aO ?aB ?aS ?aL ?_; (case aP => exact (Kd.FK_slice_mk (Kd.R_reads' (Kd.R_mono (ok' := (fun k_ => ((fun k_ => some k_ ≠ (.slice Ao17 t581.length co17 : Value).ownBlock ∧ some k_ ≠ (.slice (some ad602) t592.length co21 : Value).ownBlock ∧ some k_ ≠ (u11 : Value).ownBlock ∧ k_ ≠ gb580)) k_ ∧ some k_ ≠ (.slice (some ad608) x12_1.length co50 : Value).ownBlock)) (Kd.R_types (Kd.R_apart' (Kd.R_apart' (Kd.R_apart' (Kd.R_apart' (HO_14.out) (Kd.N_typed HO_7.out) (by decide)) (Kd.N_typed HO_9.out) (by decide)) (Kd.N_typed HO_11.out) (by decide)) (Kd.N_typed HO_12.out) (by decide)) BK580.out (by decide)) (fun k_ hk => ⟨⟨hk.1.1.1.1.2, ⟨hk.1.1.1.2, ⟨hk.1.1.2, hk.2⟩⟩⟩, hk.1.2⟩))).2.1 (Kd.R_F (Kd.R_mono (ok' := (fun k_ => ((fun k_ => some k_ ≠ (.slice Ao17 t581.length co17 : Value).ownBlock ∧ some k_ ≠ (.slice (some ad602) t592.length co21 : Value).ownBlock ∧ some k_ ≠ (u11 : Value).ownBlock ∧ k_ ≠ gb580)) k_ ∧ some k_ ≠ (.slice (some ad608) x12_1.length co50 : Value).ownBlock)) (Kd.R_types (Kd.R_apart' (Kd.R_apart' (Kd.R_apart' (Kd.R_apart' (HO_14.out) (Kd.N_typed HO_7.out) (by decide)) (Kd.N_typed HO_9.out) (by decide)) (Kd.N_typed HO_11.out) (by decide)) (Kd.N_typed HO_12.out) (by decide)) BK580.out (by decide)) (fun k_ hk => ⟨⟨hk.1.1.1.1.2, ⟨hk.1.1.1.2, ⟨hk.1.1.2, hk.2⟩⟩⟩, hk.1.2⟩))))); (case aB => exact (by repeat (first | (with_reducible first | exact HB.out | apply yA | apply yN | apply yD | refine below_set ?_ GE580.out) | exact HB.out))); (case aF => exact (fun k_ hk => ⟨Kd.fresh' (Kd.N_lt (by (with_reducible repeat (first | apply Kd.N_alloc | apply Kd.N_drewN | apply Kd.N_drew)); exact HO_7.out)) k_ hk, Kd.fresh' (Kd.N_lt (by (with_reducible repeat (first | apply Kd.N_alloc | apply Kd.N_drewN | apply Kd.N_drew)); exact HO_9.out)) k_ hk, Kd.fresh' (Kd.N_lt (by (with_reducible repeat (first | apply Kd.N_alloc | apply Kd.N_drewN | apply Kd.N_drew)); exact HO_11.out)) k_ hk, Kd.freshB (g := gb580) (o := .cells #[.int .u8 a1_0, .int .u8 a1_1] 69 (0, 0)) (by (with_reducible repeat (first | refine zN ?_ _ | refine zD ?_ | refine zA ?_ _)); exact BK580.out) k_ hk⟩)); (case aO => exact (by (with_reducible repeat (first | apply Kd.N_alloc | apply Kd.N_drewN | apply Kd.N_drew)); exact Kd.N_mono HO_12.out (fun _ hk => ⟨hk.1, ⟨hk.2.1, ⟨hk.2.2.1, hk.2.2.2.2⟩⟩⟩))); (case aS => exact (below_size (by repeat (first | (with_reducible first | exact HB.out | apply yA | apply yN | apply yD | refine below_set ?_ GE580.out) | exact HB.out)))); (case aL => have := LMc48.out; omega); intro v611 w53 ho hb hg hat; rw [← Ny610.out] at ho; have n0_ := Aside0.mk (Kd.N_afterv (ok := (fun k_ => some k_ ≠ (.slice (some ad602) t592.length co21 : Value).ownBlock ∧ some k_ ≠ (u11 : Value).ownBlock ∧ some k_ ≠ (.slice Ao51 t604.length co51 : Value).ownBlock ∧ k_ ≠ gb580)) (by (with_reducible repeat (first | apply Kd.N_alloc | apply Kd.N_drewN | apply Kd.N_drew)); exact Kd.N_mono HO_7.out (fun _ hk => ⟨⟨hk.1, ⟨hk.2.1, ⟨hk.2.2.2.1, hk.2.2.2.2⟩⟩⟩, hk.2.2.1⟩)) hg hat); have n1_ := Aside0.mk (Kd.V_afterv (ok := (fun k_ => some k_ ≠ (.slice Ao17 t581.length co17 : Value).ownBlock ∧ some k_ ≠ (.slice (some ad602) t592.length co21 : Value).ownBlock ∧ some k_ ≠ (u11 : Value).ownBlock ∧ some k_ ≠ (.slice Ao51 t604.length co51 : Value).ownBlock ∧ k_ ≠ gb580)) (by (with_reducible repeat (first | apply Kd.V_alloc | apply Kd.V_drewN | apply Kd.V_drew)); exact Kd.V_mono HO_8.out (fun _ hk => ⟨⟨hk.1, ⟨hk.2.1, ⟨hk.2.2.1, ⟨hk.2.2.2.2.1, hk.2.2.2.2.2⟩⟩⟩⟩, hk.2.2.2.1⟩)) hg hat); have n2_ := Aside0.mk (Kd.N_afterv (ok := (fun k_ => some k_ ≠ (.slice Ao17 t581.length co17 : Value).ownBlock ∧ some k_ ≠ (u11 : Value).ownBlock ∧ some k_ ≠ (.slice Ao51 t604.length co51 : Value).ownBlock ∧ k_ ≠ gb580)) (by (with_reducible repeat (first | apply Kd.N_alloc | apply Kd.N_drewN | apply Kd.N_drew)); exact Kd.N_mono HO_9.out (fun _ hk => ⟨⟨hk.1, ⟨hk.2.1, ⟨hk.2.2.2.1, hk.2.2.2.2⟩⟩⟩, hk.2.2.1⟩)) hg hat); have n3_ := Aside0.mk (Kd.N_afterv (ok := (fun k_ => some k_ ≠ (.slice Ao17 t581.length co17 : Value).ownBlock ∧ some k_ ≠ (.slice (some ad602) t592.length co21 : Value).ownBlock ∧ some k_ ≠ (.slice Ao51 t604.length co51 : Value).ownBlock ∧ k_ ≠ gb580)) (by (with_reducible repeat (first | apply Kd.N_alloc | apply Kd.N_drewN | apply Kd.N_drew)); exact Kd.N_mono HO_11.out (fun _ hk => ⟨⟨hk.1, ⟨hk.2.1, ⟨hk.2.2.2.1, hk.2.2.2.2⟩⟩⟩, hk.2.2.1⟩)) hg hat); have n4_ := Aside0.mk (blk_grown (g := gb580) (o := .cells #[.int .u8 a1_0, .int .u8 a1_1] 69 (0, 0)) (by (with_reducible repeat (first | refine zN ?_ _ | refine zD ?_ | refine zA ?_ _)); exact BK580.out) hg (Kd.N_ne HO_12.out BK580.out (by decide))); have n5_ := Aside0.mk (Kd.V_afterv (ok := (fun k_ => some k_ ≠ (.slice Ao17 t581.length co17 : Value).ownBlock ∧ some k_ ≠ (.slice (some ad602) t592.length co21 : Value).ownBlock ∧ some k_ ≠ (u11 : Value).ownBlock ∧ some k_ ≠ (.slice Ao51 t604.length co51 : Value).ownBlock ∧ k_ ≠ gb580)) (by (with_reducible repeat (first | apply Kd.V_alloc | apply Kd.V_drewN | apply Kd.V_drew)); exact Kd.V_mono HL607_0.out (fun _ hk => ⟨⟨hk.1.1, ⟨hk.2, ⟨hk.1.2.1, ⟨hk.1.2.2.2.1, hk.1.2.2.2.2⟩⟩⟩⟩, hk.1.2.2.1⟩)) hg hat); have n6_ := Aside0.mk (Kd.V_afterv (ok := (fun k_ => some k_ ≠ (.slice Ao17 t581.length co17 : Value).ownBlock ∧ some k_ ≠ (.slice (some ad602) t592.length co21 : Value).ownBlock ∧ some k_ ≠ (u11 : Value).ownBlock ∧ some k_ ≠ (.slice Ao51 t604.length co51 : Value).ownBlock ∧ k_ ≠ gb580)) (by (with_reducible repeat (first | apply Kd.V_alloc | apply Kd.V_drewN | apply Kd.V_drew)); exact HL608_0.out) hg hat); have n7_ := Aside0.mk (hb); have n8_ := Aside0.mk (ho); clear HO_7; clear HO_8; clear HO_9; clear HO_11; clear BK580; clear HL607_0; clear HL608_0; clear HB; clear HO_12; clear HO_14; have HO_7 := n0_; have HO_8 := n1_; have HO_9 := n2_; have HO_11 := n3_; have BK580 := n4_; have HL607_0 := n5_; have HL608_0 := n6_; have HB := n7_; have HO612 := n8_; clear n0_ n1_ n2_ n3_ n4_ n5_ n6_ n7_ n8_; clear ho hb hg hat; have p613 : 0 ≤ (x13_1 : Int) := of_decide_eq_true (by first | (with_reducible assumption) | assumption); have q613 : x13_1 < (t592.length : Int) := of_decide_eq_true (by first | (with_reducible assumption) | assumption); obtain ⟨ad613, A613_0, c613_0, e613, hx613_0, hl613_0, hi613_0⟩ := at_L4 (Kd.N_reads' HO_9.out).2.2 x13_1 p613 q613; obtain rfl : ad602 = ad613 := (by injection e613); obtain ⟨ce613, hce613, hMe613, hcc613⟩ := Kd.N_get HO_9.out [] x13_1 p613 (by first | exact q613 | exact of_decide_eq_true (by first | (with_reducible assumption) | assumption) | (have e_ := (Kd.N_reads' HO_9.out).1; omega)); obtain ⟨ua613_0, uc613_0, rfl, ul613_0, ge613_0⟩ := Kd.FK_slice_open hMe613; have hv613_0 := hcc613 0 _ rfl; rw [Nat.add_zero, show ((Kd.slice 40 (Kd.slice 61 k61))).sz = 1 from rfl, Nat.mul_one] at hv613_0; replace hv613_0 := Option.some.inj (hv613_0.symm.trans hx613_0); injection hv613_0 with hva_ hvn_ hvc_; rw [hva_] at ge613_0; rw [hvc_] at ul613_0; have HL613_0 := Aside0.mk (show Kd.V (Kd.slice 61 k61) 40 _ w.heap.size _ _ (rd_L4 t592 x13_1) from Kd.V_mk ul613_0 ge613_0); clear hva_ hvn_ hvc_ ge613_0 ul613_0; clear hcc613 hce613; have HR613_0 := Aside0.mk hi613_0; have HC613_0 := Aside0.mk hl613_0; clear hi613_0 hl613_0; replace p613 := eq_true p613; replace q613 := eq_true q613) | ((with_reducible refine gate_builtin (b := .append) (xs := #[.tmp 107, .tmp 111]) rfl ?_); at_builtin; refine Kd.N_append_rows (Kd.slice 61 k61) (w0 := w) w.heap.size rfl (.tmp 107) (.tmp 111) 22 40 (.slice none 0 0) 24 rfl Tryz.underlying22 info40 rfl (by decide) (by omega) u11 x11_1 (rd_L4 t592 x13_1) _ _ _ (fun k_ => some k_ ≠ (.slice Ao17 t581.length co17 : Value).ownBlock ∧ some k_ ≠ (.slice (some ad602) t592.length co21 : Value).ownBlock ∧ some k_ ≠ (v611 : Value).ownBlock ∧ k_ ≠ gb580) (fun k_ => ((fun k_ => some k_ ≠ (.slice Ao17 t581.length co17 : Value).ownBlock ∧ some k_ ≠ (.slice (some ad602) t592.length co21 : Value).ownBlock ∧ some k_ ≠ (v611 : Value).ownBlock ∧ k_ ≠ gb580)) k_ ∧ some k_ ≠ (u11 : Value).ownBlock) rfl rfl ?aO ?aR (fun _ hk => hk) ?aF ?aB ?aS ?aL ?_; (case aR => exact (by skip; exact Kd.V_F (Kd.V_mono (ok' := (fun k_ => ((fun k_ => some k_ ≠ (.slice Ao17 t581.length co17 : Value).ownBlock ∧ some k_ ≠ (.slice (some ad602) t592.length co21 : Value).ownBlock ∧ some k_ ≠ (v611 : Value).ownBlock ∧ k_ ≠ gb580)) k_ ∧ some k_ ≠ (u11 : Value).ownBlock)) (HL613_0.out) (fun k_ hk => ⟨⟨hk.1.1.1, ⟨hk.2, ⟨hk.1.2, hk.1.1.2.2.2⟩⟩⟩, hk.1.1.2.1⟩)))); (case aB => exact (by repeat (first | (with_reducible first | exact HB.out | apply yA | apply yN | apply yD | refine below_set ?_ GE580.out) | exact HB.out))); (case aF => exact (fun k_ hk => ⟨Kd.fresh' (Kd.N_lt (by (with_reducible repeat (first | apply Kd.N_alloc | apply Kd.N_drewN | apply Kd.N_drew)); exact HO_7.out)) k_ hk, Kd.fresh' (Kd.N_lt (by (with_reducible repeat (first | apply Kd.N_alloc | apply Kd.N_drewN | apply Kd.N_drew)); exact HO_9.out)) k_ hk, Kd.fresh' (Kd.N_lt (by (with_reducible repeat (first | apply Kd.N_alloc | apply Kd.N_drewN | apply Kd.N_drew)); exact HO612.out)) k_ hk, Kd.freshB (g := gb580) (o := .cells #[.int .u8 a1_0, .int .u8 a1_1] 69 (0, 0)) (by (with_reducible repeat (first | refine zN ?_ _ | refine zD ?_ | refine zA ?_ _)); exact BK580.out) k_ hk⟩)); (case aO => exact (by (with_reducible repeat (first | apply Kd.N_alloc | apply Kd.N_drewN | apply Kd.N_drew)); exact Kd.N_mono HO_11.out (fun _ hk => ⟨hk.1.1, ⟨hk.1.2.1, ⟨hk.2, hk.1.2.2.2⟩⟩⟩))); (case aS => exact (below_size (by repeat (first | (with_reducible first | exact HB.out | apply yA | apply yN | apply yD | refine below_set ?_ GE580.out) | exact HB.out)))); (case aL => have := LMc49.out; omega); intro v615 w54 ho hb hg hat; rw [← Ny614.out] at ho; have n0_ := Aside0.mk (Kd.N_afterv (ok := (fun k_ => some k_ ≠ (.slice (some ad602) t592.length co21 : Value).ownBlock ∧ some k_ ≠ (v611 : Value).ownBlock ∧ k_ ≠ gb580)) (by (with_reducible repeat (first | apply Kd.N_alloc | apply Kd.N_drewN | apply Kd.N_drew)); exact Kd.N_mono HO_7.out (fun _ hk => ⟨⟨hk.1.1, ⟨hk.2, hk.1.2.2.2⟩⟩, hk.1.2.1⟩)) hg hat); have n1_ := Aside0.mk (Kd.V_afterv (ok := (fun k_ => some k_ ≠ (.slice Ao17 t581.length co17 : Value).ownBlock ∧ some k_ ≠ (.slice (some ad602) t592.length co21 : Value).ownBlock ∧ some k_ ≠ (v611 : Value).ownBlock ∧ k_ ≠ gb580)) (by (with_reducible repeat (first | apply Kd.V_alloc | apply Kd.V_drewN | apply Kd.V_drew)); exact Kd.V_mono HO_8.out (fun _ hk => ⟨⟨hk.1.1, ⟨hk.1.2.1, ⟨hk.2, hk.1.2.2.2.2⟩⟩⟩, hk.1.2.2.1⟩)) hg hat); have n2_ := Aside0.mk (Kd.N_afterv (ok := (fun k_ => some k_ ≠ (.slice Ao17 t581.length co17 : Value).ownBlock ∧ some k_ ≠ (v611 : Value).ownBlock ∧ k_ ≠ gb580)) (by (with_reducible repeat (first | apply Kd.N_alloc | apply Kd.N_drewN | apply Kd.N_drew)); exact Kd.N_mono HO_9.out (fun _ hk => ⟨⟨hk.1.1, ⟨hk.2, hk.1.2.2.2⟩⟩, hk.1.2.1⟩)) hg hat); have n3_ := Aside0.mk (blk_grown (g := gb580) (o := .cells #[.int .u8 a1_0, .int .u8 a1_1] 69 (0, 0)) (by (with_reducible repeat (first | refine zN ?_ _ | refine zD ?_ | refine zA ?_ _)); exact BK580.out) hg (Kd.N_ne HO_11.out BK580.out (by decide))); have n4_ := Aside0.mk (Kd.V_afterv (ok := (fun k_ => some k_ ≠ (.slice Ao17 t581.length co17 : Value).ownBlock ∧ some k_ ≠ (.slice (some ad602) t592.length co21 : Value).ownBlock ∧ some k_ ≠ (v611 : Value).ownBlock ∧ k_ ≠ gb580)) (by (with_reducible repeat (first | apply Kd.V_alloc | apply Kd.V_drewN | apply Kd.V_drew)); exact Kd.V_mono HL607_0.out (fun _ hk => ⟨⟨hk.1.1, ⟨hk.1.2.1, ⟨hk.2, hk.1.2.2.2.2⟩⟩⟩, hk.1.2.2.1⟩)) hg hat); have n5_ := Aside0.mk (Kd.V_afterv (ok := (fun k_ => some k_ ≠ (.slice Ao17 t581.length co17 : Value).ownBlock ∧ some k_ ≠ (.slice (some ad602) t592.length co21 : Value).ownBlock ∧ some k_ ≠ (v611 : Value).ownBlock ∧ k_ ≠ gb580)) (by (with_reducible repeat (first | apply Kd.V_alloc | apply Kd.V_drewN | apply Kd.V_drew)); exact Kd.V_mono HL608_0.out (fun _ hk => ⟨⟨hk.1.1, ⟨hk.1.2.1, ⟨hk.2, hk.1.2.2.2.2⟩⟩⟩, hk.1.2.2.1⟩)) hg hat); have n6_ := Aside0.mk (Kd.N_afterv (ok := (fun k_ => some k_ ≠ (.slice Ao17 t581.length co17 : Value).ownBlock ∧ some k_ ≠ (.slice (some ad602) t592.length co21 : Value).ownBlock ∧ k_ ≠ gb580)) (by (with_reducible repeat (first | apply Kd.N_alloc | apply Kd.N_drewN | apply Kd.N_drew)); exact Kd.N_mono HO612.out (fun _ hk => ⟨⟨hk.1, ⟨hk.2.1, hk.2.2.2⟩⟩, hk.2.2.1⟩)) hg hat); have n7_ := Aside0.mk (Kd.V_afterv (ok := (fun k_ => some k_ ≠ (.slice Ao17 t581.length co17 : Value).ownBlock ∧ some k_ ≠ (.slice (some ad602) t592.length co21 : Value).ownBlock ∧ some k_ ≠ (v611 : Value).ownBlock ∧ k_ ≠ gb580)) (by (with_reducible repeat (first | apply Kd.V_alloc | apply Kd.V_drewN | apply Kd.V_drew)); exact Kd.V_mono HL613_0.out (fun _ hk => ⟨⟨hk.1.1.1, ⟨hk.2, ⟨hk.1.2, hk.1.1.2.2.2⟩⟩⟩, hk.1.1.2.1⟩)) hg hat); have n8_ := Aside0.mk (hb); have n9_ := Aside0.mk (ho); clear HO_7; clear HO_8; clear HO_9; clear BK580; clear HL607_0; clear HL608_0; clear HO612; clear HL613_0; clear HB; clear HO_11; have HO_7 := n0_; have HO_8 := n1_; have HO_9 := n2_; have BK580 := n3_; have HL607_0 := n4_; have HL608_0 := n5_; have HO612 := n6_; have HL613_0 := n7_; have HB := n8_; have HO616 := n9_; clear n0_ n1_ n2_ n3_ n4_ n5_ n6_ n7_ n8_ n9_; clear ho hb hg hat))
                        go_roundg k3
                        case measure => have := HK1.out; have := HJ19.out; have := HK3.out; omega
                        case rel => exact ⟨(y614), (y610), (wrap64 (x13_1 + 1)), (by first | rfl | (simp; done) | (simp [*]; done)), H', ⟨by have := HK1.out; have := HJ19.out; have := HK3.out; omega⟩, ⟨by (with_reducible repeat (first | apply Kd.N_alloc | apply Kd.N_drewN | apply Kd.N_drew)); exact Kd.N_mono HO_7.out (fun _ hk => ⟨hk.1.1, ⟨hk.2, ⟨hk.1.2.1, hk.1.2.2⟩⟩⟩)⟩, ⟨by (with_reducible repeat (first | apply Kd.V_alloc | apply Kd.V_drewN | apply Kd.V_drew)); exact Kd.V_mono HO_8.out (fun _ hk => ⟨hk.1.1, ⟨hk.1.2.1, ⟨hk.2, ⟨hk.1.2.2.1, hk.1.2.2.2⟩⟩⟩⟩)⟩, ⟨by (with_reducible repeat (first | apply Kd.N_alloc | apply Kd.N_drewN | apply Kd.N_drew)); exact Kd.N_mono HO_9.out (fun _ hk => ⟨hk.1.1, ⟨hk.2, ⟨hk.1.2.1, hk.1.2.2⟩⟩⟩)⟩, ⟨by (with_reducible repeat (first | apply Kd.N_alloc | apply Kd.N_drewN | apply Kd.N_drew)); exact HO616.out⟩, ⟨by (with_reducible repeat (first | apply Kd.N_alloc | apply Kd.N_drewN | apply Kd.N_drew)); exact Kd.N_mono HO612.out (fun _ hk => ⟨hk.1.1, ⟨hk.1.2.1, ⟨hk.2, hk.1.2.2⟩⟩⟩)⟩, ⟨by (with_reducible repeat (first | refine zN ?_ _ | refine zD ?_ | refine zA ?_ _)); exact BK580.out⟩, ⟨by repeat (first | (with_reducible first | exact HB.out | apply yA | apply yN | apply yD | refine below_set ?_ GE580.out) | exact HB.out)⟩⟩
                       ·rw [if_neg c49] at H
                        exact absurd H (by simp)
                      ·rw [if_neg c48] at H
                       exact absurd H (by simp)
                    ·rw [if_neg c45] at H
                     exact absurd H (by simp)
                   ·rw [if_neg c44] at H
                    exact absurd H (by simp)
                  ·rw [if_neg c42] at H
                   have c42b0 : decide (0 < x13_1) = false := decide_eq_false c42
                   clear c42
                   by_cases c55 : x12_1.length < 5864062014805
                   ·rw [if_pos c55] at H
                    have LMc55 := Aside0.mk c55
                    clear c55
                    obtain ⟨y617, hy617⟩ : ∃ y_ : List (List (S61)), y_ = (x12_1 ++ [t604]) := ⟨_, rfl⟩
                    replace H : (if x11_1.length + (rd_L4 t592 x13_1).length < 5864062014805 then (tacticianlaw02_RowsApart.l0 k3 t581 y587 t592 (x11_1 ++ (rd_L4 t592 x13_1)) y617 (wrap64 (x13_1 + 1))) else (none)) = some r := by first | (rw [hy617]; with_reducible exact H) | (have H2_ := (Option.bind_some _ _).symm.trans H; rw [hy617]; with_reducible exact H2_) | (have H2_ := (Option.bind_some _ _).symm.trans H; with_reducible exact H2_) | with_reducible exact H | (rw [hy617]; exact H) | exact H
                    have Ny617 := Aside0.mk hy617
                    clear hy617
                    by_cases c56 : x11_1.length + (rd_L4 t592 x13_1).length < 5864062014805
                    ·rw [if_pos c56] at H
                     have LMc56 := Aside0.mk c56
                     clear c56
                     obtain ⟨y621, hy621⟩ : ∃ y_ : List (List (S61)), y_ = (x11_1 ++ (rd_L4 t592 x13_1)) := ⟨_, rfl⟩
                     replace H : (tacticianlaw02_RowsApart.l0 k3 t581 y587 t592 y621 y617 (wrap64 (x13_1 + 1))) = some r := by first | (rw [hy621]; with_reducible exact H) | (have H2_ := (Option.bind_some _ _).symm.trans H; rw [hy621]; with_reducible exact H2_) | (have H2_ := (Option.bind_some _ _).symm.trans H; with_reducible exact H2_) | with_reducible exact H | (rw [hy621]; exact H) | exact H
                     have Ny621 := Aside0.mk hy621
                     clear hy621
                     have H' := Aside0.mk H
                     clear H
                     have p607 : 0 ≤ (x13_1 : Int) := of_decide_eq_true (by first | (with_reducible assumption) | assumption)
                     have q607 : x13_1 < (t592.length : Int) := of_decide_eq_true (by first | (with_reducible assumption) | assumption)
                     obtain ⟨ad607, A607_0, c607_0, e607, hx607_0, hl607_0, hi607_0⟩ := at_L4 (Kd.N_reads' HO_9.out).2.2 x13_1 p607 q607
                     obtain rfl : ad602 = ad607 := (by injection e607)
                     obtain ⟨ce607, hce607, hMe607, hcc607⟩ := Kd.N_get HO_9.out [] x13_1 p607 (by first | exact q607 | exact of_decide_eq_true (by first | (with_reducible assumption) | assumption) | (have e_ := (Kd.N_reads' HO_9.out).1; omega))
                     obtain ⟨ua607_0, uc607_0, rfl, ul607_0, ge607_0⟩ := Kd.FK_slice_open hMe607
                     have hv607_0 := hcc607 0 _ rfl
                     rw [Nat.add_zero, show ((Kd.slice 40 (Kd.slice 61 k61))).sz = 1 from rfl, Nat.mul_one] at hv607_0
                     replace hv607_0 := Option.some.inj (hv607_0.symm.trans hx607_0)
                     injection hv607_0 with hva_ hvn_ hvc_
                     rw [hva_] at ge607_0
                     rw [hvc_] at ul607_0
                     have HL607_0 := Aside0.mk (show Kd.V (Kd.slice 61 k61) 40 _ w.heap.size _ _ (rd_L4 t592 x13_1) from Kd.V_mk ul607_0 ge607_0)
                     clear hva_ hvn_ hvc_ ge607_0 ul607_0
                     clear hcc607 hce607
                     have HR607_0 := Aside0.mk hi607_0
                     have HC607_0 := Aside0.mk hl607_0
                     clear hi607_0 hl607_0
                     replace p607 := eq_true p607
                     replace q607 := eq_true q607
                     obtain ⟨Ao58, co58, eo58⟩ := Kd.R_slice HO_14.out
                     subst eo58
                     try clear hx602_0
                     go_wp2_with (first | ((with_reducible refine gate_builtin (b := .append) (xs := #[.tmp 103, .tmp 105]) rfl ?_); at_builtin; refine Kd.N_append (Kd.slice 61 k61) (w0 := w) w.heap.size rfl (.tmp 103) (.tmp 105) 22 40 (.slice none 0 0) 24 rfl Tryz.underlying22 info40 rfl (by decide) (by omega) u12 x12_1 t604 [.slice Ao58 t604.length co58] (fun k_ => some k_ ≠ (.slice Ao17 t581.length co17 : Value).ownBlock ∧ some k_ ≠ (.slice (some ad602) t592.length co21 : Value).ownBlock ∧ some k_ ≠ (u11 : Value).ownBlock ∧ k_ ≠ gb580) (fun k_ => ((fun k_ => some k_ ≠ (.slice Ao17 t581.length co17 : Value).ownBlock ∧ some k_ ≠ (.slice (some ad602) t592.length co21 : Value).ownBlock ∧ some k_ ≠ (u11 : Value).ownBlock ∧ k_ ≠ gb580)) k_ ∧ some k_ ≠ (u12 : Value).ownBlock) rfl rfl ?aP (fun _ hk => hk) ?aF ?aO ?aB ?aS ?aL ?_; (case aP => exact (Kd.FK_slice_mk (Kd.R_reads' (Kd.R_mono (ok' := (fun k_ => ((fun k_ => some k_ ≠ (.slice Ao17 t581.length co17 : Value).ownBlock ∧ some k_ ≠ (.slice (some ad602) t592.length co21 : Value).ownBlock ∧ some k_ ≠ (u11 : Value).ownBlock ∧ k_ ≠ gb580)) k_ ∧ some k_ ≠ (u12 : Value).ownBlock)) (Kd.R_types (Kd.R_apart' (Kd.R_apart' (Kd.R_apart' (Kd.R_apart' (HO_14.out) (Kd.N_typed HO_7.out) (by decide)) (Kd.N_typed HO_9.out) (by decide)) (Kd.N_typed HO_11.out) (by decide)) (Kd.N_typed HO_12.out) (by decide)) BK580.out (by decide)) (fun k_ hk => ⟨⟨hk.1.1.1.1.2, ⟨hk.1.1.1.2, ⟨hk.1.1.2, hk.2⟩⟩⟩, hk.1.2⟩))).2.1 (Kd.R_F (Kd.R_mono (ok' := (fun k_ => ((fun k_ => some k_ ≠ (.slice Ao17 t581.length co17 : Value).ownBlock ∧ some k_ ≠ (.slice (some ad602) t592.length co21 : Value).ownBlock ∧ some k_ ≠ (u11 : Value).ownBlock ∧ k_ ≠ gb580)) k_ ∧ some k_ ≠ (u12 : Value).ownBlock)) (Kd.R_types (Kd.R_apart' (Kd.R_apart' (Kd.R_apart' (Kd.R_apart' (HO_14.out) (Kd.N_typed HO_7.out) (by decide)) (Kd.N_typed HO_9.out) (by decide)) (Kd.N_typed HO_11.out) (by decide)) (Kd.N_typed HO_12.out) (by decide)) BK580.out (by decide)) (fun k_ hk => ⟨⟨hk.1.1.1.1.2, ⟨hk.1.1.1.2, ⟨hk.1.1.2, hk.2⟩⟩⟩, hk.1.2⟩))))); (case aB => exact (by repeat (first | (with_reducible first | exact HB.out | apply yA | apply yN | apply yD | refine below_set ?_ GE580.out) | exact HB.out))); (case aF => exact (fun k_ hk => ⟨Kd.fresh' (Kd.N_lt (by (with_reducible repeat (first | apply Kd.N_alloc | apply Kd.N_drewN | apply Kd.N_drew)); exact HO_7.out)) k_ hk, Kd.fresh' (Kd.N_lt (by (with_reducible repeat (first | apply Kd.N_alloc | apply Kd.N_drewN | apply Kd.N_drew)); exact HO_9.out)) k_ hk, Kd.fresh' (Kd.N_lt (by (with_reducible repeat (first | apply Kd.N_alloc | apply Kd.N_drewN | apply Kd.N_drew)); exact HO_11.out)) k_ hk, Kd.freshB (g := gb580) (o := .cells #[.int .u8 a1_0, .int .u8 a1_1] 69 (0, 0)) (by (with_reducible repeat (first | refine zN ?_ _ | refine zD ?_ | refine zA ?_ _)); exact BK580.out) k_ hk⟩)); (case aO => exact (by (with_reducible repeat (first | apply Kd.N_alloc | apply Kd.N_drewN | apply Kd.N_drew)); exact Kd.N_mono HO_12.out (fun _ hk => ⟨hk.1, ⟨hk.2.1, ⟨hk.2.2.1, hk.2.2.2.2⟩⟩⟩))); (case aS => exact (below_size (by repeat (first | (with_reducible first | exact HB.out | apply yA | apply yN | apply yD | refine below_set ?_ GE580.out) | exact HB.out)))); (case aL => have := LMc55.out; omega); intro v618 w57 ho hb hg hat; rw [← Ny617.out] at ho; have n0_ := Aside0.mk (Kd.N_afterv (ok := (fun k_ => some k_ ≠ (.slice (some ad602) t592.length co21 : Value).ownBlock ∧ some k_ ≠ (u11 : Value).ownBlock ∧ some k_ ≠ (.slice Ao58 t604.length co58 : Value).ownBlock ∧ k_ ≠ gb580)) (by (with_reducible repeat (first | apply Kd.N_alloc | apply Kd.N_drewN | apply Kd.N_drew)); exact Kd.N_mono HO_7.out (fun _ hk => ⟨⟨hk.1, ⟨hk.2.1, ⟨hk.2.2.2.1, hk.2.2.2.2⟩⟩⟩, hk.2.2.1⟩)) hg hat); have n1_ := Aside0.mk (Kd.V_afterv (ok := (fun k_ => some k_ ≠ (.slice Ao17 t581.length co17 : Value).ownBlock ∧ some k_ ≠ (.slice (some ad602) t592.length co21 : Value).ownBlock ∧ some k_ ≠ (u11 : Value).ownBlock ∧ some k_ ≠ (.slice Ao58 t604.length co58 : Value).ownBlock ∧ k_ ≠ gb580)) (by (with_reducible repeat (first | apply Kd.V_alloc | apply Kd.V_drewN | apply Kd.V_drew)); exact Kd.V_mono HO_8.out (fun _ hk => ⟨⟨hk.1, ⟨hk.2.1, ⟨hk.2.2.1, ⟨hk.2.2.2.2.1, hk.2.2.2.2.2⟩⟩⟩⟩, hk.2.2.2.1⟩)) hg hat); have n2_ := Aside0.mk (Kd.N_afterv (ok := (fun k_ => some k_ ≠ (.slice Ao17 t581.length co17 : Value).ownBlock ∧ some k_ ≠ (u11 : Value).ownBlock ∧ some k_ ≠ (.slice Ao58 t604.length co58 : Value).ownBlock ∧ k_ ≠ gb580)) (by (with_reducible repeat (first | apply Kd.N_alloc | apply Kd.N_drewN | apply Kd.N_drew)); exact Kd.N_mono HO_9.out (fun _ hk => ⟨⟨hk.1, ⟨hk.2.1, ⟨hk.2.2.2.1, hk.2.2.2.2⟩⟩⟩, hk.2.2.1⟩)) hg hat); have n3_ := Aside0.mk (Kd.N_afterv (ok := (fun k_ => some k_ ≠ (.slice Ao17 t581.length co17 : Value).ownBlock ∧ some k_ ≠ (.slice (some ad602) t592.length co21 : Value).ownBlock ∧ some k_ ≠ (.slice Ao58 t604.length co58 : Value).ownBlock ∧ k_ ≠ gb580)) (by (with_reducible repeat (first | apply Kd.N_alloc | apply Kd.N_drewN | apply Kd.N_drew)); exact Kd.N_mono HO_11.out (fun _ hk => ⟨⟨hk.1, ⟨hk.2.1, ⟨hk.2.2.2.1, hk.2.2.2.2⟩⟩⟩, hk.2.2.1⟩)) hg hat); have n4_ := Aside0.mk (blk_grown (g := gb580) (o := .cells #[.int .u8 a1_0, .int .u8 a1_1] 69 (0, 0)) (by (with_reducible repeat (first | refine zN ?_ _ | refine zD ?_ | refine zA ?_ _)); exact BK580.out) hg (Kd.N_ne HO_12.out BK580.out (by decide))); have n5_ := Aside0.mk (Kd.V_afterv (ok := (fun k_ => some k_ ≠ (.slice Ao17 t581.length co17 : Value).ownBlock ∧ some k_ ≠ (.slice (some ad602) t592.length co21 : Value).ownBlock ∧ some k_ ≠ (u11 : Value).ownBlock ∧ some k_ ≠ (.slice Ao58 t604.length co58 : Value).ownBlock ∧ k_ ≠ gb580)) (by (with_reducible repeat (first | apply Kd.V_alloc | apply Kd.V_drewN | apply Kd.V_drew)); exact Kd.V_mono HL607_0.out (fun _ hk => ⟨⟨hk.1.1, ⟨hk.2, ⟨hk.1.2.1, ⟨hk.1.2.2.2.1, hk.1.2.2.2.2⟩⟩⟩⟩, hk.1.2.2.1⟩)) hg hat); have n6_ := Aside0.mk (hb); have n7_ := Aside0.mk (ho); clear HO_7; clear HO_8; clear HO_9; clear HO_11; clear BK580; clear HL607_0; clear HB; clear HO_12; clear HO_14; have HO_7 := n0_; have HO_8 := n1_; have HO_9 := n2_; have HO_11 := n3_; have BK580 := n4_; have HL607_0 := n5_; have HB := n6_; have HO619 := n7_; clear n0_ n1_ n2_ n3_ n4_ n5_ n6_ n7_; clear ho hb hg hat; have p620 : 0 ≤ (x13_1 : Int) := of_decide_eq_true (by first | (with_reducible assumption) | assumption); have q620 : x13_1 < (t592.length : Int) := of_decide_eq_true (by first | (with_reducible assumption) | assumption); obtain ⟨ad620, A620_0, c620_0, e620, hx620_0, hl620_0, hi620_0⟩ := at_L4 (Kd.N_reads' HO_9.out).2.2 x13_1 p620 q620; obtain rfl : ad602 = ad620 := (by injection e620); obtain ⟨ce620, hce620, hMe620, hcc620⟩ := Kd.N_get HO_9.out [] x13_1 p620 (by first | exact q620 | exact of_decide_eq_true (by first | (with_reducible assumption) | assumption) | (have e_ := (Kd.N_reads' HO_9.out).1; omega)); obtain ⟨ua620_0, uc620_0, rfl, ul620_0, ge620_0⟩ := Kd.FK_slice_open hMe620; have hv620_0 := hcc620 0 _ rfl; rw [Nat.add_zero, show ((Kd.slice 40 (Kd.slice 61 k61))).sz = 1 from rfl, Nat.mul_one] at hv620_0; replace hv620_0 := Option.some.inj (hv620_0.symm.trans hx620_0); injection hv620_0 with hva_ hvn_ hvc_; rw [hva_] at ge620_0; rw [hvc_] at ul620_0; have HL620_0 := Aside0.mk (show Kd.V (Kd.slice 61 k61) 40 _ w.heap.size _ _ (rd_L4 t592 x13_1) from Kd.V_mk ul620_0 ge620_0); clear hva_ hvn_ hvc_ ge620_0 ul620_0; clear hcc620 hce620; have HR620_0 := Aside0.mk hi620_0; have HC620_0 := Aside0.mk hl620_0; clear hi620_0 hl620_0; replace p620 := eq_true p620; replace q620 := eq_true q620) | ((with_reducible refine gate_builtin (b := .append) (xs := #[.tmp 107, .tmp 111]) rfl ?_); at_builtin; refine Kd.N_append_rows (Kd.slice 61 k61) (w0 := w) w.heap.size rfl (.tmp 107) (.tmp 111) 22 40 (.slice none 0 0) 24 rfl Tryz.underlying22 info40 rfl (by decide) (by omega) u11 x11_1 (rd_L4 t592 x13_1) _ _ _ (fun k_ => some k_ ≠ (.slice Ao17 t581.length co17 : Value).ownBlock ∧ some k_ ≠ (.slice (some ad602) t592.length co21 : Value).ownBlock ∧ some k_ ≠ (v618 : Value).ownBlock ∧ k_ ≠ gb580) (fun k_ => ((fun k_ => some k_ ≠ (.slice Ao17 t581.length co17 : Value).ownBlock ∧ some k_ ≠ (.slice (some ad602) t592.length co21 : Value).ownBlock ∧ some k_ ≠ (v618 : Value).ownBlock ∧ k_ ≠ gb580)) k_ ∧ some k_ ≠ (u11 : Value).ownBlock) rfl rfl ?aO ?aR (fun _ hk => hk) ?aF ?aB ?aS ?aL ?_; (case aR => exact (by skip; exact Kd.V_F (Kd.V_mono (ok' := (fun k_ => ((fun k_ => some k_ ≠ (.slice Ao17 t581.length co17 : Value).ownBlock ∧ some k_ ≠ (.slice (some ad602) t592.length co21 : Value).ownBlock ∧ some k_ ≠ (v618 : Value).ownBlock ∧ k_ ≠ gb580)) k_ ∧ some k_ ≠ (u11 : Value).ownBlock)) (HL620_0.out) (fun k_ hk => ⟨⟨hk.1.1.1, ⟨hk.2, ⟨hk.1.2, hk.1.1.2.2.2⟩⟩⟩, hk.1.1.2.1⟩)))); (case aB => exact (by repeat (first | (with_reducible first | exact HB.out | apply yA | apply yN | apply yD | refine below_set ?_ GE580.out) | exact HB.out))); (case aF => exact (fun k_ hk => ⟨Kd.fresh' (Kd.N_lt (by (with_reducible repeat (first | apply Kd.N_alloc | apply Kd.N_drewN | apply Kd.N_drew)); exact HO_7.out)) k_ hk, Kd.fresh' (Kd.N_lt (by (with_reducible repeat (first | apply Kd.N_alloc | apply Kd.N_drewN | apply Kd.N_drew)); exact HO_9.out)) k_ hk, Kd.fresh' (Kd.N_lt (by (with_reducible repeat (first | apply Kd.N_alloc | apply Kd.N_drewN | apply Kd.N_drew)); exact HO619.out)) k_ hk, Kd.freshB (g := gb580) (o := .cells #[.int .u8 a1_0, .int .u8 a1_1] 69 (0, 0)) (by (with_reducible repeat (first | refine zN ?_ _ | refine zD ?_ | refine zA ?_ _)); exact BK580.out) k_ hk⟩)); (case aO => exact (by (with_reducible repeat (first | apply Kd.N_alloc | apply Kd.N_drewN | apply Kd.N_drew)); exact Kd.N_mono HO_11.out (fun _ hk => ⟨hk.1.1, ⟨hk.1.2.1, ⟨hk.2, hk.1.2.2.2⟩⟩⟩))); (case aS => exact (below_size (by repeat (first | (with_reducible first | exact HB.out | apply yA | apply yN | apply yD | refine below_set ?_ GE580.out) | exact HB.out)))); (case aL => have := LMc56.out; omega); intro v622 w59 ho hb hg hat; rw [← Ny621.out] at ho; have n0_ := Aside0.mk (Kd.N_afterv (ok := (fun k_ => some k_ ≠ (.slice (some ad602) t592.length co21 : Value).ownBlock ∧ some k_ ≠ (v618 : Value).ownBlock ∧ k_ ≠ gb580)) (by (with_reducible repeat (first | apply Kd.N_alloc | apply Kd.N_drewN | apply Kd.N_drew)); exact Kd.N_mono HO_7.out (fun _ hk => ⟨⟨hk.1.1, ⟨hk.2, hk.1.2.2.2⟩⟩, hk.1.2.1⟩)) hg hat); have n1_ := Aside0.mk (Kd.V_afterv (ok := (fun k_ => some k_ ≠ (.slice Ao17 t581.length co17 : Value).ownBlock ∧ some k_ ≠ (.slice (some ad602) t592.length co21 : Value).ownBlock ∧ some k_ ≠ (v618 : Value).ownBlock ∧ k_ ≠ gb580)) (by (with_reducible repeat (first | apply Kd.V_alloc | apply Kd.V_drewN | apply Kd.V_drew)); exact Kd.V_mono HO_8.out (fun _ hk => ⟨⟨hk.1.1, ⟨hk.1.2.1, ⟨hk.2, hk.1.2.2.2.2⟩⟩⟩, hk.1.2.2.1⟩)) hg hat); have n2_ := Aside0.mk (Kd.N_afterv (ok := (fun k_ => some k_ ≠ (.slice Ao17 t581.length co17 : Value).ownBlock ∧ some k_ ≠ (v618 : Value).ownBlock ∧ k_ ≠ gb580)) (by (with_reducible repeat (first | apply Kd.N_alloc | apply Kd.N_drewN | apply Kd.N_drew)); exact Kd.N_mono HO_9.out (fun _ hk => ⟨⟨hk.1.1, ⟨hk.2, hk.1.2.2.2⟩⟩, hk.1.2.1⟩)) hg hat); have n3_ := Aside0.mk (blk_grown (g := gb580) (o := .cells #[.int .u8 a1_0, .int .u8 a1_1] 69 (0, 0)) (by (with_reducible repeat (first | refine zN ?_ _ | refine zD ?_ | refine zA ?_ _)); exact BK580.out) hg (Kd.N_ne HO_11.out BK580.out (by decide))); have n4_ := Aside0.mk (Kd.V_afterv (ok := (fun k_ => some k_ ≠ (.slice Ao17 t581.length co17 : Value).ownBlock ∧ some k_ ≠ (.slice (some ad602) t592.length co21 : Value).ownBlock ∧ some k_ ≠ (v618 : Value).ownBlock ∧ k_ ≠ gb580)) (by (with_reducible repeat (first | apply Kd.V_alloc | apply Kd.V_drewN | apply Kd.V_drew)); exact Kd.V_mono HL607_0.out (fun _ hk => ⟨⟨hk.1.1, ⟨hk.1.2.1, ⟨hk.2, hk.1.2.2.2.2⟩⟩⟩, hk.1.2.2.1⟩)) hg hat); have n5_ := Aside0.mk (Kd.N_afterv (ok := (fun k_ => some k_ ≠ (.slice Ao17 t581.length co17 : Value).ownBlock ∧ some k_ ≠ (.slice (some ad602) t592.length co21 : Value).ownBlock ∧ k_ ≠ gb580)) (by (with_reducible repeat (first | apply Kd.N_alloc | apply Kd.N_drewN | apply Kd.N_drew)); exact Kd.N_mono HO619.out (fun _ hk => ⟨⟨hk.1, ⟨hk.2.1, hk.2.2.2⟩⟩, hk.2.2.1⟩)) hg hat); have n6_ := Aside0.mk (Kd.V_afterv (ok := (fun k_ => some k_ ≠ (.slice Ao17 t581.length co17 : Value).ownBlock ∧ some k_ ≠ (.slice (some ad602) t592.length co21 : Value).ownBlock ∧ some k_ ≠ (v618 : Value).ownBlock ∧ k_ ≠ gb580)) (by (with_reducible repeat (first | apply Kd.V_alloc | apply Kd.V_drewN | apply Kd.V_drew)); exact Kd.V_mono HL620_0.out (fun _ hk => ⟨⟨hk.1.1.1, ⟨hk.2, ⟨hk.1.2, hk.1.1.2.2.2⟩⟩⟩, hk.1.1.2.1⟩)) hg hat); have n7_ := Aside0.mk (hb); have n8_ := Aside0.mk (ho); clear HO_7; clear HO_8; clear HO_9; clear BK580; clear HL607_0; clear HO619; clear HL620_0; clear HB; clear HO_11; have HO_7 := n0_; have HO_8 := n1_; have HO_9 := n2_; have BK580 := n3_; have HL607_0 := n4_; have HO619 := n5_; have HL620_0 := n6_; have HB := n7_; have HO623 := n8_; clear n0_ n1_ n2_ n3_ n4_ n5_ n6_ n7_ n8_; clear ho hb hg hat))
                     go_roundg k3
                     case measure => have := HK1.out; have := HJ19.out; have := HK3.out; omega
                     case rel => exact ⟨(y621), (y617), (wrap64 (x13_1 + 1)), (by first | rfl | (simp; done) | (simp [*]; done)), H', ⟨by have := HK1.out; have := HJ19.out; have := HK3.out; omega⟩, ⟨by (with_reducible repeat (first | apply Kd.N_alloc | apply Kd.N_drewN | apply Kd.N_drew)); exact Kd.N_mono HO_7.out (fun _ hk => ⟨hk.1.1, ⟨hk.2, ⟨hk.1.2.1, hk.1.2.2⟩⟩⟩)⟩, ⟨by (with_reducible repeat (first | apply Kd.V_alloc | apply Kd.V_drewN | apply Kd.V_drew)); exact Kd.V_mono HO_8.out (fun _ hk => ⟨hk.1.1, ⟨hk.1.2.1, ⟨hk.2, ⟨hk.1.2.2.1, hk.1.2.2.2⟩⟩⟩⟩)⟩, ⟨by (with_reducible repeat (first | apply Kd.N_alloc | apply Kd.N_drewN | apply Kd.N_drew)); exact Kd.N_mono HO_9.out (fun _ hk => ⟨hk.1.1, ⟨hk.2, ⟨hk.1.2.1, hk.1.2.2⟩⟩⟩)⟩, ⟨by (with_reducible repeat (first | apply Kd.N_alloc | apply Kd.N_drewN | apply Kd.N_drew)); exact HO623.out⟩, ⟨by (with_reducible repeat (first | apply Kd.N_alloc | apply Kd.N_drewN | apply Kd.N_drew)); exact Kd.N_mono HO619.out (fun _ hk => ⟨hk.1.1, ⟨hk.1.2.1, ⟨hk.2, hk.1.2.2⟩⟩⟩)⟩, ⟨by (with_reducible repeat (first | refine zN ?_ _ | refine zD ?_ | refine zA ?_ _)); exact BK580.out⟩, ⟨by repeat (first | (with_reducible first | exact HB.out | apply yA | apply yN | apply yD | refine below_set ?_ GE580.out) | exact HB.out)⟩⟩
                    ·rw [if_neg c56] at H
                     exact absurd H (by simp)
                   ·rw [if_neg c55] at H
                    exact absurd H (by simp)
                ·rw [if_neg c32] at H
                 exact absurd H (by simp)
               ·rw [if_neg c31] at H
                exact absurd H (by simp)
            ·rw [if_neg c28] at H
             exact absurd H (by simp)
           ·rw [if_neg c27] at H
            exact absurd H (by simp)
          ·rw [if_neg c26] at H
           exact absurd H (by simp)
      ·rw [if_neg c19] at H
       have c19b0 : decide (x13_1 < (t592.length : Int)) = false := decide_eq_false c19
       clear c19
       replace H := Option.bind_eq_some_iff.mp H
       obtain ⟨⟨t596, t597⟩, A600, H⟩ := H
       replace H : (if t597 = 0 then (if t596 = true then ((tacticianlaw02_awake.f).bind fun t598 => (some t598)) else (some false)) else (some false)) = some r := H
       have A60 := Aside0.mk A600
       clear A600
       by_cases c61 : t597 = 0
       ·rw [if_pos c61] at H
        have c61b0 : (t597 == 0) = true := beq_iff_eq.mpr c61
        have c61b1 : (t597 != 0) = false := bne_eq_false_iff_eq.mpr c61
        clear c61
        by_cases c62 : t596 = true
        ·subst c62
         have H1 : ((tacticianlaw02_awake.f).bind fun t598 => (some t598)) = some r := by rw [if_pos rfl] at H; exact H
         clear H
         have H := H1
         clear H1
         replace H := Option.bind_eq_some_iff.mp H
         obtain ⟨t598, A630, H⟩ := H
         replace H : (some t598) = some r := H
         have A63 := Aside0.mk A630
         clear A630
         obtain rfl := Option.some.inj H
         obtain ⟨Ao64, co64, eo64⟩ := Kd.N_slice HO_9.out
         subst eo64
         obtain ⟨Ao65, co65, eo65⟩ := Kd.N_slice HO_11.out
         subst eo65
         go_wp2_with (first | ((with_reducible refine gate_callee (f := 42) rfl ?_); refine goesL_ (some 116) rfl rfl Tryz.func42 (by kernel_rfl) rfl #[.slice Ao65 x11_1.length co65, .slice Ao17 t581.length co17] rfl (by (try simp only [List.map_toArray, List.map_cons, List.map_nil]); first | done | rfl | (simp only [List.length_drop, List.length_take]; rfl)) ?_; (with_reducible refine (rows_Same.calls (fun k_ => (some k_ ≠ (.slice Ao17 t581.length co17 : Value).ownBlock ∧ (some k_ ≠ (.slice Ao64 t592.length co64 : Value).ownBlock ∧ (some k_ ≠ (u12 : Value).ownBlock ∧ k_ ≠ gb580)))) _ _ x11_1 (fun k_ => (some k_ ≠ (.slice Ao64 t592.length co64 : Value).ownBlock ∧ (some k_ ≠ (.slice Ao65 x11_1.length co65 : Value).ownBlock ∧ (some k_ ≠ (u12 : Value).ownBlock ∧ k_ ≠ gb580)))) _ _ t581 true t597 _ ?side1 ?side2 A60.out).mono ?_); (case side1 => exact Kd.N_V (HO_11.out)); (case side2 => exact Kd.N_V (HO_7.out)); rintro e w66 ⟨rfl, hb⟩; refine ⟨_, rfl, ?_⟩; have n0_ := Aside0.mk (Kd.N_below (by (with_reducible repeat (first | apply Kd.N_alloc | apply Kd.N_drewN | apply Kd.N_drew)); exact HO_7.out) hb); have n1_ := Aside0.mk (Kd.V_below (by (with_reducible repeat (first | apply Kd.V_alloc | apply Kd.V_drewN | apply Kd.V_drew)); exact HO_8.out) hb); have n2_ := Aside0.mk (Kd.N_below (by (with_reducible repeat (first | apply Kd.N_alloc | apply Kd.N_drewN | apply Kd.N_drew)); exact HO_9.out) hb); have n3_ := Aside0.mk (Kd.N_below (by (with_reducible repeat (first | apply Kd.N_alloc | apply Kd.N_drewN | apply Kd.N_drew)); exact HO_11.out) hb); have n4_ := Aside0.mk (Kd.N_below (by (with_reducible repeat (first | apply Kd.N_alloc | apply Kd.N_drewN | apply Kd.N_drew)); exact HO_12.out) hb); have n5_ := Aside0.mk (blk_below (g := gb580) (o := .cells #[.int .u8 a1_0, .int .u8 a1_1] 69 (0, 0)) (by (with_reducible repeat (first | refine zN ?_ _ | refine zD ?_ | refine zA ?_ _)); exact BK580.out) hb); have n6_ := Aside0.mk (below_step (by repeat (first | (with_reducible first | exact HB.out | apply yA | apply yN | apply yD | refine below_set ?_ GE580.out) | exact HB.out)) hb); clear HO_7; clear HO_8; clear HO_9; clear HO_11; clear HO_12; clear BK580; clear HB; have HO_7 := n0_; have HO_8 := n1_; have HO_9 := n2_; have HO_11 := n3_; have HO_12 := n4_; have BK580 := n5_; have HB := n6_; clear n0_ n1_ n2_ n3_ n4_ n5_ n6_; (try clear hb); (try clear hb2); (try clear hk); (try clear hi)) | (go_at_call 18; (with_reducible refine (tacticianlaw02_awake.calls  t598 _ ?side1 A63.out).mono ?_); (case side1 => exact Laid.below HLD.out (by repeat (first | (with_reducible first | exact HB.out | apply yA | apply yN | apply yD | refine below_set ?_ GE580.out) | exact HB.out))); rintro e w67 ⟨rfl, hb⟩; have n0_ := Aside0.mk (Kd.N_below (by (with_reducible repeat (first | apply Kd.N_alloc | apply Kd.N_drewN | apply Kd.N_drew)); exact HO_7.out) hb); have n1_ := Aside0.mk (Kd.V_below (by (with_reducible repeat (first | apply Kd.V_alloc | apply Kd.V_drewN | apply Kd.V_drew)); exact HO_8.out) hb); have n2_ := Aside0.mk (Kd.N_below (by (with_reducible repeat (first | apply Kd.N_alloc | apply Kd.N_drewN | apply Kd.N_drew)); exact HO_9.out) hb); have n3_ := Aside0.mk (Kd.N_below (by (with_reducible repeat (first | apply Kd.N_alloc | apply Kd.N_drewN | apply Kd.N_drew)); exact HO_11.out) hb); have n4_ := Aside0.mk (Kd.N_below (by (with_reducible repeat (first | apply Kd.N_alloc | apply Kd.N_drewN | apply Kd.N_drew)); exact HO_12.out) hb); have n5_ := Aside0.mk (blk_below (g := gb580) (o := .cells #[.int .u8 a1_0, .int .u8 a1_1] 69 (0, 0)) (by (with_reducible repeat (first | refine zN ?_ _ | refine zD ?_ | refine zA ?_ _)); exact BK580.out) hb); have n6_ := Aside0.mk (below_step (by repeat (first | (with_reducible first | exact HB.out | apply yA | apply yN | apply yD | refine below_set ?_ GE580.out) | exact HB.out)) hb); clear HO_7; clear HO_8; clear HO_9; clear HO_11; clear HO_12; clear BK580; clear HB; have HO_7 := n0_; have HO_8 := n1_; have HO_9 := n2_; have HO_11 := n3_; have HO_12 := n4_; have BK580 := n5_; have HB := n6_; clear n0_ n1_ n2_ n3_ n4_ n5_ n6_; (try clear hb); (try clear hb2); (try clear hk); (try clear hi)))
         go_ret
         exact ⟨by first | rfl | (simp [errW_none, errW_some] <;> rfl) | (simp only [← hji5]; first | rfl | (simp [errW_none, errW_some] <;> rfl)) | (simp [*, errW_none, errW_some] <;> rfl), by repeat (first | (with_reducible first | exact HB.out | apply yA | apply yN | apply yD | refine below_set ?_ GE580.out) | exact HB.out)⟩
        ·replace c62 := Bool.eq_false_iff.mpr c62
         subst c62
         have H1 : (some false) = some r := by rw [if_neg (show ¬ (false = true) by decide)] at H; exact H
         clear H
         have H := H1
         clear H1
         exact absurd ((Option.some.inj H).trans hr_.out) (by decide)
       ·rw [if_neg c61] at H
        have c61b0 : (t597 == 0) = false := beq_eq_false_iff_ne.mpr c61
        have c61b1 : (t597 != 0) = true := bne_iff_ne.mpr c61
        exact absurd ((Option.some.inj H).trans hr_.out) (by decide)
   ·rw [if_neg c9] at H
    have c9b0 : (t595 == 0) = false := beq_eq_false_iff_ne.mpr c9
    have c9b1 : (t595 != 0) = true := bne_iff_ne.mpr c9
    exact absurd ((Option.some.inj H).trans hr_.out) (by decide)
  ·rw [if_neg c7] at H
   exact absurd H (by simp)
 ·rw [if_neg c6] at H
  exact absurd H (by simp)
end Go.Proofs.YtmhobbdedmjmnaaGreatDoor.Q
end
section
/- What the law RowsApart computes answers as it says, in plain words: no program in sight. -/
namespace Go.Proofs.YtmhobbdedmjmnaaGreatDoor
open Go.RowKit Go.Sort Go.Proofs.YtmhobbdedmjmnaaGreatDoor.Q Go.Proofs.YtmhobbdedmjmnaaGreatDoorW.PrintWords Go.Proofs.YtmhobbdedmjmnaaGreatDoorW.PrintLast Go.Proofs.YtmhobbdedmjmnaaGreatDoorW.PrintMore
set_option linter.unusedSectionVars false
theorem placesB_mk {l : List (List V)} {p : List Int} (h : ∀ r ∈ l, placesIn p r = true) : placesB l p = true := by
  unfold placesB
  rw [Bool.not_eq_true', List.any_eq_false]
  intro r hr
  rw [Bool.not_eq_true, List.any_eq_false]
  intro c hc
  have := placesIn_spec (h r hr) c hc
  rw [Bool.not_eq_true, Bool.or_eq_false_iff, decide_eq_false_iff_not, decide_eq_false_iff_not]
  omega
section
variable (L : List (List V)) (p : List Int) (hL : GoodR L) (hn : p.length ≤ 2) (hp : ∀ r ∈ L, placesIn p r = true)
include hL hn hp
theorem group_in {h : List V} {r : List V} (hr : r ∈ groupR p L h) : RowOk r ∧ placesIn p r = true ∧ atP p r = h := by
  have h1 := groupR_mem.1 hr
  exact ⟨hL.ok.2 r h1.1, hp r h1.1, h1.2⟩
theorem head_ok {h : List V} (hh : h ∈ headsR p L) : RowOk h := by
  obtain ⟨r, hr, rfl⟩ := List.mem_map.1 (((oneR_spec _).2 h).1 hh)
  exact atP_ok (hp r hr) (by omega) (hL.ok.2 r hr)
theorem group_pos {h : List V} (hh : h ∈ headsR p L) : 0 < (groupR p L h).length := by
  obtain ⟨r, hr, e⟩ := List.mem_map.1 (((oneR_spec _).2 h).1 hh)
  exact List.length_pos_of_mem (groupR_mem.2 ⟨hr, e⟩)
theorem heads_len : (headsR p L).length ≤ 100 := Nat.le_trans (oneR_len _) (by rw [List.length_map]; exact hL.1)
theorem apart_l1 (all : List (List V)) (ha : all.length ≤ 100000) (i : Nat) (hi : i < (headsR p L).length) : ∀ (d j k : Nat), j + d = (groupR p L (headsR p L)[i]).length → 2000 ≤ k →
    tacticianlaw02_RowsApart.l1 (k + d + 1) L p ((headsR p L).map (groupR p L)) all ((headsR p L).take i) (i : Int) (headsR p L)[i] (j : Int) =
      tacticianlaw02_RowsApart.l0 k L p ((headsR p L).map (groupR p L)) (all ++ groupR p L (headsR p L)[i]) ((headsR p L).take (i + 1)) ((i + 1 : Nat) : Int) := by
  have hl := heads_len L p hL hn hp
  have hm : ((headsR p L).map (groupR p L)).length = (headsR p L).length := List.length_map _
  have hg : rd_L4 ((headsR p L).map (groupR p L)) (i : Int) = groupR p L (headsR p L)[i] := by
    rw [rdG_at _ i (by omega), List.getElem_map]
  have hgl : (groupR p L (headsR p L)[i]).length ≤ 100 := (groupR_ok hL.ok).1
  have hhi := head_ok L p hL hn hp (List.getElem_mem hi)
  intro d
  induction d with
  | zero =>
    intro j k hj hk
    have et : (headsR p L).take i ++ [(headsR p L)[i]] = (headsR p L).take (i + 1) := by
      rw [List.take_add_one, List.getElem?_eq_getElem hi, Option.toList_some]
    rw [Nat.add_zero, tacticianlaw02_RowsApart.l1, hg, if_pos (by omega), if_pos (by omega), if_neg (by omega)]
    by_cases h0 : 0 < i
    · have e1 : wrap64 ((i : Int) - 1) = ((i - 1 : Nat) : Int) := by rw [wrap_small (by omega) (by omega)]; omega
      have hi1 : i - 1 < (headsR p L).length := by omega
      have e2 : rd_L3 ((headsR p L).take i) ((i - 1 : Nat) : Int) = (headsR p L)[i - 1] := by
        rw [rdL_at _ (i - 1) (by rw [List.length_take]; omega), List.getElem_take]
      have hlt : cfR (headsR p L)[i - 1] (headsR p L)[i] < 0 := List.pairwise_iff_getElem.1 (oneR_spec (L.map (atP p))).1 (i - 1) i hi1 hi (by omega)
      rw [if_pos (by omega), e1, if_pos (by omega), if_pos (by rw [List.length_take]; omega), e2, refCmp _ _ (head_ok L p hL hn hp (List.getElem_mem hi1)) hhi k (by omega), Option.bind_some, if_neg (by omega), if_pos (by rw [List.length_take]; omega), if_pos (by omega), et, wrap_small (n := (i : Int) + 1) (by omega) (by omega), show ((i : Int) + 1) = ((i + 1 : Nat) : Int) by omega]
    · rw [if_neg (by omega), if_pos (by rw [List.length_take]; omega), if_pos (by omega), et, wrap_small (n := (i : Int) + 1) (by omega) (by omega), show ((i : Int) + 1) = ((i + 1 : Nat) : Int) by omega]
  | succ d ih =>
    intro j k hj hk
    have h1 : j < (groupR p L (headsR p L)[i]).length := by omega
    have h2 := group_in L p hL hn hp (List.getElem_mem h1)
    rw [show k + (d + 1) + 1 = (k + d + 1) + 1 by omega, tacticianlaw02_RowsApart.l1, hg, if_pos (by omega), if_pos (by omega), if_pos (by omega), if_pos (by omega), rdL_at _ j h1, refAt _ _ h2.2.1 (by omega) _ (by omega), Option.bind_some, h2.2.2, refCmp _ _ hhi hhi _ (by omega), Option.bind_some, if_pos ((cfR_zero _ _).2 rfl), wrap_small (n := (j : Int) + 1) (by omega) (by omega), show ((j : Int) + 1) = ((j + 1 : Nat) : Int) by omega]
    exact ih (j + 1) k (by omega) hk
theorem flat_le : ∀ i : Nat, (((headsR p L).take i).flatMap (groupR p L)).length ≤ 100 := fun i => by
  have h1 := (sortBy_length (cfP p) L)
  rw [sorted_groups p L, ← List.take_append_drop i (headsR p L), List.flatMap_append, List.length_append] at h1
  have := hL.1
  omega
theorem apart_l0 : ∀ (d i k : Nat), i + d = (headsR p L).length → 200 * d + 120000 ≤ k →
    tacticianlaw02_RowsApart.l0 k L p ((headsR p L).map (groupR p L)) (((headsR p L).take i).flatMap (groupR p L)) ((headsR p L).take i) (i : Int) = some true := by
  have hl := heads_len L p hL hn hp
  have hm : ((headsR p L).map (groupR p L)).length = (headsR p L).length := List.length_map _
  intro d
  induction d with
  | zero =>
    intro i k hi hk
    obtain ⟨k, rfl⟩ : ∃ m, k = m + 1 := ⟨k - 1, by omega⟩
    have hper : (sortBy (cfP p) L).Perm L := sortBy_perm _ _
    have hgd : GoodR (sortBy (cfP p) L) := hL.sub (fun x hx => sortBy_mem.1 hx) (by rw [sortBy_length]; exact hL.1)
    rw [tacticianlaw02_RowsApart.l0, if_neg (by omega), List.take_of_length_le (by omega), ← sorted_groups, sameF _ _ (hgd.ok.grow (by omega)) (hL.ok.grow (by omega)), Option.bind_some, if_pos (hgd.small2 hL)]
    have e : canR (sortBy (cfP p) L) = canR L := TC.unique cfR_tc ((sortBy_perm _ _).trans hper) (cfR_tc.sorted _)
    simp [e, tacticianlaw02_awake.f]
  | succ d ih =>
    intro i k hi hk
    have h1 : i < (headsR p L).length := by omega
    have hg : rd_L4 ((headsR p L).map (groupR p L)) (i : Int) = groupR p L (headsR p L)[i] := by
      rw [rdG_at _ i (by omega), List.getElem_map]
    have hgl : (groupR p L (headsR p L)[i]).length ≤ 100 := (groupR_ok hL.ok).1
    have hpos := group_pos L p hL hn hp (List.getElem_mem h1)
    have hpb : placesB (groupR p L (headsR p L)[i]) p = true := placesB_mk fun r hr => (group_in L p hL hn hp hr).2.1
    have h2 := group_in L p hL hn hp (List.getElem_mem hpos)
    have hfl := flat_le L p hL hn hp i
    obtain ⟨k, rfl⟩ : ∃ m, k = m + (groupR p L (headsR p L)[i]).length + 1 + 1 + 1 := ⟨k - (groupR p L (headsR p L)[i]).length - 3, by omega⟩
    have e0 : rd_L3 (groupR p L (headsR p L)[i]) 0 = (groupR p L (headsR p L)[i])[0] := rdL_at _ 0 hpos
    rw [tacticianlaw02_RowsApart.l0, if_pos (by omega), if_pos (by omega), hg, if_neg (by omega), refPlaces _ p hgl (by omega) _ (by omega), Option.bind_some, hpb, Bool.not_true, tacticianlaw02_RowsApart.j1, if_neg (by decide), hg, if_pos (by omega), if_pos (by omega), if_pos (by omega), e0, refAt _ _ h2.2.1 (by omega) _ (by omega), Option.bind_some, h2.2.2]
    refine (apart_l1 L p hL hn hp _ (by omega) i h1 _ 0 k (Nat.zero_add _) (by omega)).trans ?_
    have h3 := ih (i + 1) k (by omega) (by omega)
    rw [show ((headsR p L).take (i + 1)).flatMap (groupR p L) = ((headsR p L).take i).flatMap (groupR p L) ++ groupR p L (headsR p L)[i] by rw [List.take_add_one, List.getElem?_eq_getElem h1, Option.toList_some, List.flatMap_append, List.flatMap_cons, List.flatMap_nil, List.append_nil]] at h3
    exact h3
end
theorem u8_mod {a : Int} (h : (Lit.int .u8 a).wf = true) : 0 ≤ Int.tmod (wrap64 a) 3 ∧ Int.tmod (wrap64 a) 3 < 3 := by
  have h1 : 0 ≤ a ∧ a < 256 := by
    have h2 := h
    have e1 : IntKind.u8.min = 0 := rfl
    have e2 : IntKind.u8.max = 255 := rfl
    simp [Lit.wf] at h2
    omega
  rw [wrap_small (by omega) (by omega), Int.tmod_eq_emod_of_nonneg h1.1]
  omega
theorem pure_RowsApart : ∀ (l0 : (List (List V))) (a1_0 a1_1 a2 : Int), argRows l0 → (Lit.int .u8 a1_0).wf = true → (Lit.int .u8 a1_1).wf = true → (Lit.int .u8 a2).wf = true → ∃ k, Q.tacticianlaw02_RowsApart.f k (l0) a1_0 a1_1 a2 = some true := by
  intro l0 a b c h0 ha hb hc
  refine ⟨900000, ?_⟩
  have ua := u8_mod ha
  have ub := u8_mod hb
  have uc := u8_mod hc
  obtain ⟨L, hs, hl, ht⟩ := some_at l0 h0 14 (by omega) 900000 (by omega)
  have hL : GoodR L := ⟨by omega, ht⟩
  unfold tacticianlaw02_RowsApart.f
  rw [show (14 : Int) = ((14 : Nat) : Int) from rfl, hs]
  simp only [Option.bind_some]
  obtain ⟨p, hpd⟩ : ∃ p, p = [Int.tmod (wrap64 a) 3, Int.tmod (wrap64 b) 3].take (Int.tmod (wrap64 c) 3).toNat := ⟨_, rfl⟩
  have hn : p.length ≤ 2 := by rw [hpd, List.length_take]; exact Nat.min_le_right _ _
  have hin : ∀ x ∈ p, 0 ≤ x ∧ x < 3 := fun x hx => by
    rw [hpd] at hx
    have h1 := List.mem_of_mem_take hx
    rw [List.mem_cons, List.mem_singleton] at h1
    rcases h1 with rfl | rfl
    · exact ua
    · exact ub
  have hp : ∀ r ∈ L, placesIn p r = true := fun r hr => placesIn_mk fun x hx => by
    have h1 := hin x hx
    have h2 := (ht r hr).1
    omega
  rw [if_pos uc.1, if_pos (by show Int.tmod (wrap64 c) 3 ≤ ((2 : Nat) : Int); omega), ← hpd]
  unfold rows_Groups.f
  rw [if_pos hL.small, if_pos ⟨okR_of hL.ok (by omega), by omega⟩, if_pos (placesB_mk hp), Option.bind_some, if_pos rfl]
  exact apart_l0 L p hL hn hp _ 0 900000 (Nat.zero_add _) (by have := heads_len L p hL hn hp; omega)
end Go.Proofs.YtmhobbdedmjmnaaGreatDoor
end
section
/- From data that are read to what the printed contracts ask: keys and columns (two cells each). -/
namespace Go.Proofs.YtmhobbdedmjmnaaGreatDoor
open Go.RowKit Go.Proofs.YtmhobbdedmjmnaaGreatDoor.Q Go.Proofs.YtmhobbdedmjmnaaGreatDoorW.PrintWords Go.Proofs.YtmhobbdedmjmnaaGreatDoorW.PrintLast Go.Proofs.YtmhobbdedmjmnaaGreatDoorW.PrintMore
set_option maxRecDepth 100000 in
/-- a key: two cells -/
theorem Opens.key : Opens Tryz.prog 36 k36 (fun v => (Lit.int .i64 v.f0).wf = true) := by
  intro H enc W base spare held fuel cs x h
  obtain ⟨y0, y1, n, rfl, hl, h0, h1⟩ := Go.ChangeShapes.trod_struct2 Tryz.underlying36 h
  have hc : Tryz.prog.cellsOf 36 = 2 := by kernel_rfl
  have c0 : Tryz.prog.cellsOf 3 = 1 := by kernel_rfl
  have c1 : Tryz.prog.cellsOf 4 = 1 := by kernel_rfl
  rw [hc] at hl
  simp only [c0, c1] at h0 h1
  obtain ⟨a, e0, o0⟩ := Opens.int Tryz.underlying3 H enc W base spare held _ _ _ h0
  obtain ⟨b, e1, o1⟩ := Opens.bool Tryz.underlying4 H enc W base spare held _ _ _ h1
  match cs, hl with
  | [z0, z1], _ =>
    have q0 : [z0] = [Value.int .i64 a] := e0
    have q1 : [z1] = [Value.bool b] := e1
    simp only [List.cons.injEq, and_true] at q0 q1
    subst q0 q1
    refine ⟨⟨a, b⟩, k36_mk W ⟨a, b⟩, fun hw => ?_⟩
    rw [DataW.weights, Tryz.underlying36] at hw
    simp only [List.map_cons, List.map_nil, DataW.weightsEach, List.all_append, List.append_nil, Bool.and_eq_true] at hw
    exact o0 hw.1
set_option maxRecDepth 100000 in
/-- a column: two cells -/
theorem Opens.col : Opens Tryz.prog 88 k88 (fun v => (Lit.int .i64 v.f0).wf = true) := by
  intro H enc W base spare held fuel cs x h
  obtain ⟨y0, y1, n, rfl, hl, h0, h1⟩ := Go.ChangeShapes.trod_struct2 Tryz.underlying88 h
  have hc : Tryz.prog.cellsOf 88 = 2 := by kernel_rfl
  have c0 : Tryz.prog.cellsOf 59 = 1 := by kernel_rfl
  have c1 : Tryz.prog.cellsOf 4 = 1 := by kernel_rfl
  rw [hc] at hl
  simp only [c0, c1] at h0 h1
  obtain ⟨a, e0, o0⟩ := Opens.int Tryz.underlying59 H enc W base spare held _ _ _ h0
  obtain ⟨b, e1, o1⟩ := Opens.bool Tryz.underlying4 H enc W base spare held _ _ _ h1
  match cs, hl with
  | [z0, z1], _ =>
    have q0 : [z0] = [Value.int .i64 a] := e0
    have q1 : [z1] = [Value.bool b] := e1
    simp only [List.cons.injEq, and_true] at q0 q1
    subst q0 q1
    refine ⟨⟨a, b⟩, k88_mk W ⟨a, b⟩, fun hw => ?_⟩
    rw [DataW.weights, Tryz.underlying88] at hw
    simp only [List.map_cons, List.map_nil, DataW.weightsEach, List.all_append, List.append_nil, Bool.and_eq_true] at hw
    exact o0 hw.1
end Go.Proofs.YtmhobbdedmjmnaaGreatDoor
end
section
/- Proved: what the rows of this seat share (the witness's world, the listed variables, the wrap), under the conditions of the given statements alone (written by a program of ours for this seat). -/
namespace Go.Proofs.YtmhobbdedmjmnaaGreatDoor
open Go.RowKit
variable {H : Type} {enc : TypeId × Value → H}
/-- The plain wrap, with the listed variables and the world's shape kept. -/
theorem returnsInHanded_both {a : Assume} {C : Checked} {os : Os} {f : FuncId} {fn : Func} {s : ChangeSpec} {conds : List PathCond} {apart fresh handsOn again : Bool} {X : World → Array Value → Prop}
    (hX : ∀ (w w' : World) (args : Array Value), w.heap = w'.heap → X w args → X w' args)
    (own : ownKnob C.prog.godebug = none) (started : os.Started) (noInit : C.prog.inits.idxOf? f = none) (hfn : C.prog.funcs[f]? = some fn)
    (witness : ∃ (w : World) (tape : Tape) (i : Input), w.os = os ∧ (w.forCall tape i).Shaped C.prog ∧ i.vars = [] ∧ Input.okWide C.prog (w.forCall tape i) .any w.heap.size f i ∧
      ((s.pre enc C.prog fn conds apart (w.forCall tape i).memory i.args ∧ X (w.forCall tape i).memory i.args) ∧ sizedMet enc C.prog fn (OpenSpec.ofChange s) apart (w.forCall tape i).memory i.args) ∧ a.holds C.prog (lone (Frame.enter C.prog f i.args .normal) [] (w.forCall tape i)))
    (contract : ∀ (W : World) (base : Nat) (args : Array Value) (ds gs : List (DataW H)) (before : List MemPlace),
      (∀ (j : Nat) t v, fn.params[j]? = some t → args[j]? = some v → Value.okWide C.prog W .any base t v) →
      DataW.Whole enc C.prog fn.params.toList s.vars apart W args.toList ds gs before →
      conds.all (PathCond.test C.prog ⟨fn.params.toList, ds, s.plain.varTypes C.prog, gs⟩) = true →
      (DataW.weightsEach C.prog (fn.params.toList ++ s.plain.varTypes C.prog) (ds ++ gs)).all (· ≤ reachBytes) = true → X W args → W.ShapedOpen C.prog →
      a.holds C.prog (lone (Frame.enter C.prog f args .normal) [] W) →
      Calls C.prog f args W fun e W' => ∃ v, e = .returned v ∧ s.post enc C.prog fn apart fresh handsOn again W args v W') :
    ReturnsInHanded a C os f .any (fun w args => (s.pre enc C.prog fn conds apart w args ∧ X w args) ∧ sizedMet enc C.prog fn (OpenSpec.ofChange s) apart w args) (s.post enc C.prog fn apart fresh handsOn again) := by
  refine returnsInHanded_of_calls own started noInit witness ?_
  intro w tape i _ hsh _ hok hpre hholds
  obtain ⟨_, _, _, fn', hfn', _, _, _, _, hval⟩ := hok
  have e : fn' = fn := Option.some.inj (hfn'.symm.trans hfn)
  subst e
  obtain ⟨⟨⟨ds, gs, before, hw, hc⟩, hx⟩, hz⟩ := hpre
  have hw' := DataW.Whole.of_heap (w' := w.forCall tape i) (by rfl) hw
  refine (contract (w.forCall tape i) w.heap.size i.args ds gs before hval hw' hc (hz.weights hw) (hX _ _ _ (by rfl) hx) hsh hholds).mono fun e W' ⟨v, he, hp⟩ => ?_
  subst he
  exact ChangeSpec.post_blind hp
theorem own : ownKnob Tryz.prog.godebug = none := by kernel_rfl
theorem laidOut : laidOutB Tryz.prog = true := by kernel_rfl
/-- the world that the program's own start leaves, the pinned table laid -/
noncomputable def laidWorld (os : Os) : World :=
  let w0 := World.doorLaid Tryz.prog 600 os
  { w0 with heap := w0.heap.modify 2 fun
      | .cells _ t frozen => .cells (Lib.firstTab.map fun z => Value.int .u8 z).toArray t frozen
      | o => o }
theorem laid_plain {W : World} (h : laidMetH Tryz.prog Rows.rowsApartRow.laid W) : laidMet Tryz.prog Rows.rowsApartRow.laid W := by
  have e : (Rows.rowsApartRow.laid.filter fun x => x.2.handleName?.isSome) = [] := by kernel_rfl
  unfold laidMetH at h
  rw [e] at h
  exact h
theorem laid_met (os : Os) (args : Array Value) : laidMetH Tryz.prog Rows.rowsApartRow.laid ((laidWorld os).forCall (fun _ _ => 0) ⟨#[], args, []⟩).memory := by
  have e : (Rows.rowsApartRow.laid.filter fun x => x.2.handleName?.isSome) = [] := by kernel_rfl
  unfold laidMetH
  rw [e]
  exact laidMet_of_run' 8 (by kernel_rfl) (by kernel_rfl)
theorem laid_of {W : World} (h0 : laidMetH Tryz.prog Rows.rowsApartRow.laid W) (hsh : W.ShapedOpen Tryz.prog) : Laid W := by
  have h := laid_plain h0
  have hp : Lib.TabIs Tryz.prog W "internal/strconv.uint64pow10" .u64 Lib.pow10Tab := by
    have z := h.tail.tail
    have e : Rows.laid_internal_strconv_uint64pow10 (H := Unit) = Lib.tabData .u64 Lib.pow10Tab := by kernel_rfl
    rw [e] at z
    exact Lib.tabIs_of_head (g := 0) (t := 198) (e := 153) (n := 20) (by kernel_rfl) (by kernel_rfl) (by kernel_rfl) (by kernel_rfl) (by kernel_rfl) (by kernel_rfl) z
  obtain ⟨m, hm⟩ := cell_of_shapedOpen_int (g := 1) (t := 3) (k := .i64) (zero := #[.int .i64 0]) hsh (of_decide_eq_true (by kernel_rfl)) (by kernel_rfl) rfl (by kernel_rfl) (by kernel_rfl) (by kernel_rfl)
  exact ⟨hp, ⟨m, hm⟩⟩
end Go.Proofs.YtmhobbdedmjmnaaGreatDoor
end
section
/- Proved: the card of the statement RowsApart, under the conditions of the given statements alone (written by a program of ours for this seat). -/
namespace Go.Proofs.YtmhobbdedmjmnaaGreatDoor.rowsApart
open Go.ChangeShapes Go.WideShapes Go.ChangeAt Go.RowKit
open Go.ChangeMaps (open_string shut_string)
open Go.Proofs.YtmhobbdedmjmnaaGreatDoor.Q Go.Proofs.YtmhobbdedmjmnaaGreatDoorW.PrintWords
set_option linter.unusedVariables false
set_option maxRecDepth 100000 in
set_option maxHeartbeats 1000000 in
theorem lifted (os : Os) (started : os.Started) (H : Type) (enc : TypeId × Value → H) :
    ReturnsInHanded {} Tryz.checked os 11 .any (fun w args => (Rows.rowsApartSpec.pre enc Tryz.prog Tryz.f11 [] false w args ∧ laidMetH Tryz.prog Rows.rowsApartRow.laid w) ∧ sizedMet enc Tryz.prog Tryz.f11 (OpenSpec.ofChange Rows.rowsApartSpec) false w args) (Rows.rowsApartSpec.post enc Tryz.prog Tryz.f11 false true false false) := by
  refine returnsInHanded_both (C := Tryz.checked) (X := fun w _ => laidMetH Tryz.prog Rows.rowsApartRow.laid w) (fun _ _ _ hh h => h.of_heap hh) own started (by kernel_rfl) Tryz.func11
    (ChangeSpec.witness_shaped (enc := enc) (C := Tryz.checked) (os := os) (X := fun w _ => laidMetH Tryz.prog Rows.rowsApartRow.laid w) false (laidWorld os) #[.slice none 0 0, .agg #[.int .u8 0, .int .u8 0], .int .u8 0] 8 rfl (World.shaped_of_RefB (by kernel_rfl) (by kernel_rfl)) (by kernel_rfl) (by kernel_rfl) (by kernel_rfl) (laid_met os _)) ?_
  intro W base args ds gs before hval0 hW _ hsz0 hL hsh _
  have hsz : (DataW.weightsEach Tryz.prog (Tryz.f11.params.toList ++ Rows.rowsApartSpec.plain.varTypes Tryz.prog) (ds ++ gs)).all (· ≤ reachBytes) = true := hsz0
  have hW' := hW
  obtain ⟨p, q, hA0, hV, rfl, hfz, hnd⟩ := hW
  have hA : DataW.TrodAll enc Tryz.prog W 0 (fun _ => true) true Tryz.f11.params.toList args.toList ds p := hA0
  rw [Tryz.params11] at hA hsz
  obtain ⟨v0, vs0, d0, ds0, p0, q0, hargs, rfl, rfl, h0, r0⟩ := trodAll_cons hA
  obtain ⟨v1, vs1, d1, ds1, p1, q1, rfl, rfl, rfl, h1, r1⟩ := trodAll_cons r0
  obtain ⟨v2, vs2, d2, ds2, p2, q2, rfl, rfl, rfl, h2, r2⟩ := trodAll_cons r1
  obtain ⟨rfl, rfl, rfl⟩ := trodAll_nil r2
  obtain rfl : args = #[v0, v1, v2] := by cases args; simp_all
  obtain ⟨rfl, rfl⟩ := trodVars_none hV
  have hval : ∀ (j : Nat) t v, Tryz.f11.params[j]? = some t → (#[v0, v1, v2] : Array Value)[j]? = some v → Value.okWide Tryz.prog W .any base t v := hval0
  rw [Tryz.params11] at hval
  have k0 := h0
  have lt0 : ∀ x ∈ p0, x.block < W.heap.size := by obtain ⟨m, hm⟩ := k0; exact DataW.trod_lt m _ _ _ hm
  obtain ⟨aa0, len0, cap0, rfl⟩ := okWide_slice Tryz.underlying22 (hval 0 22 v0 rfl rfl)
  obtain ⟨fuel0, hf0⟩ := h0
  obtain ⟨l0, ⟨A0, c0, ev0, hc0, hr0⟩, o0⟩ := (Opens.slice Tryz.underlying22 (by kernel_rfl) (n := 24) (by kernel_rfl) (Opens.slice Tryz.underlying40 (by kernel_rfl) (n := 32) (by kernel_rfl) Opens.value)) H enc W 0 _ _ fuel0 _ _ hf0
  obtain ⟨rfl, rfl, rfl⟩ : aa0 = A0 ∧ len0 = l0.length ∧ cap0 = c0 := by simpa [Value.cells] using ev0
  have y0 := o0 (List.all_eq_true.2 fun z hz => (List.all_eq_true.1 hsz) z (DataW.weights_mem_each (j := 0) (t := 22) rfl rfl z hz))
  have k1 := h1
  have lt1 : ∀ x ∈ p1, x.block < W.heap.size := by obtain ⟨m, hm⟩ := k1; exact DataW.trod_lt m _ _ _ hm
  obtain ⟨cs1, rfl⟩ := okWide_array Tryz.underlying69 (hval 1 69 v1 rfl rfl)
  obtain ⟨fuel1, hf1⟩ := h1
  obtain ⟨a1_0, a1_1, e1, y1_0, y1_1⟩ := open_arr2 Tryz.underlying69 Tryz.underlying5 (by kernel_rfl) (by kernel_rfl) hf1
  obtain rfl : cs1 = #[.int .u8 a1_0, .int .u8 a1_1] := by
    have z := e1
    simp only [Value.cells] at z
    cases cs1
    simpa using z
  have k2 := h2
  have lt2 : ∀ x ∈ p2, x.block < W.heap.size := by obtain ⟨m, hm⟩ := k2; exact DataW.trod_lt m _ _ _ hm
  obtain ⟨a2, rfl, rfl, rfl, y2⟩ := open_int Tryz.underlying5 (hval 2 5 v2 rfl rfl) h2
  obtain ⟨k, hk⟩ := pure_RowsApart l0 a1_0 a1_1 a2 y0 y1_0 y1_1 y2
  refine (Q.tacticianlaw02_RowsApart.calls k _ _ l0 a1_0 a1_1 a2 true W hr0 hc0 (laid_of hL hsh) ⟨rfl⟩ hk).mono fun e W' ⟨he, bel⟩ => ?_
  subst he
  exact ⟨_, rfl, _, _, _, [], _, [], hW', trodAll_mk1 (shut_bool Tryz.underlying4 _), (trodAll_cons_mk (Below.trod laidOut (by kernel_rfl) (of_decide_eq_true (by kernel_rfl)) k0 bel lt0) (trodAll_cons_mk (Below.trod laidOut (by kernel_rfl) (of_decide_eq_true (by kernel_rfl)) k1 bel lt1) (trodAll_cons_mk (Below.trod laidOut (by kernel_rfl) (of_decide_eq_true (by kernel_rfl)) k2 bel lt2) trodAll_mk0))), rfl, bel.frame _, fun h => by cases h⟩
theorem over : Rows.rowsApartRow.holds Tryz.pinned (OpenSpec.ofChange Rows.rowsApartSpec) :=
  OpenClaim.holds_of_wide 11 Tryz.f11 rfl rfl rfl rfl rfl rfl rfl ⟨rfl, rfl, rfl, rfl, rfl⟩ rfl rfl rfl rfl rfl (by kernel_rfl) Tryz.func11 (by kernel_rfl)
    (of_decide_eq_true (by kernel_rfl)) (by unfold Func.isWrapper; first | (rw [if_pos (by decide +kernel)]; kernel_rfl) | (rw [if_neg (by decide +kernel)]; exact ⟨rfl, rfl⟩))
    (fun os started H enc _ => lifted os started H enc)
theorem card : Rows.RowsApartCardSaid :=
  Claim7.holds_tied_plain_at .later [] [.data, .data, .data, .data, .pinned] true (true, "3fbdbdc6005f940d9b2637db3a20e2190d23d3aac91fe9574c23040e4f9c7ab4") true
    over (fun _ h => by cases h) (by kernel_rfl) (fun _ h => by cases h) rowsApart_row_tie rfl ⟨rfl, rfl⟩ (by kernel_rfl) rfl
    (fun f fn hf hfn => by
      obtain rfl : f = 11 := Option.some.inj ((show Tryz.prog.funcNamed "tactician/tacticianlaw02.RowsApart" = some 11 by kernel_rfl).symm.trans hf) |>.symm
      obtain rfl : fn = Tryz.f11 := (Option.some.inj (Tryz.func11.symm.trans hfn)).symm
      refine ⟨by kernel_rfl, fun j t ht => ?_⟩
      rw [Tryz.params11] at ht
      have hm := Array.mem_of_getElem? ht
      simp only [List.mem_toArray, List.mem_cons, List.mem_nil_iff, or_false] at hm
      rcases hm with rfl | rfl | rfl
      · exact (show Tryz.prog.wantsStandIn 22 = false by kernel_rfl)
      · exact (show Tryz.prog.wantsStandIn 69 = false by kernel_rfl)
      · exact (show Tryz.prog.wantsStandIn 5 = false by kernel_rfl))
    (by kernel_rfl)
end Go.Proofs.YtmhobbdedmjmnaaGreatDoor.rowsApart
namespace Go.Proofs.YtmhobbdedmjmnaaGreatDoor
/-- The card, under a short name, for the claim. -/
theorem rowsApart_card : Rows.RowsApartCardSaid := rowsApart.card
end Go.Proofs.YtmhobbdedmjmnaaGreatDoor
end
