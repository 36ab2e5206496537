/- Proved: the card of the statement RowsBags, under the conditions of the given statements alone (written by a program of ours for this seat). -/
import Derived.ProofKit
import Derived.SizedLaws
import Derived.Deep.Slices
import Derived.Deep.Strs
import Derived.ChangeSame
import Derived.Test.YtmhobbdedmjmnaaGreatDoorRows
import Derived.HandedShaped
import Derived.Handed
import Derived.LaidLaws
import Derived.LaidHandle
import Derived.LaidMore
import Derived.Stop.LaidErr
import Derived.Lib.LaidTab
import Derived.Lib.LaidRTab
import Derived.Shelf.Vars
import Derived.Lib.LaidIn
import Derived.PinnedBridge
import Derived.Test.YtmhobbdedmjmnaaGreatDoorCards
import Derived.Test.YtmhobbdedmjmnaaGreatDoorTie
import Derived.SevenTiedAt
import Derived.WalkKit
import Derived.OpenShut
import Derived.ShutString
import Derived.ChangeOld
import Derived.Below
import Derived.Test.YtmhobbdedmjmnaaGreatDoorMBags6
section
/- Each function reached is shown to return what the plain function beside it computes, wherever that is defined (written by a program of ours for this seat). -/
namespace Go.Proofs.YtmhobbdedmjmnaaGreatDoor.Q
open Go.RowKit Go.Proofs.YtmhobbdedmjmnaaGreatDoorW.PrintWords Go.Proofs.YtmhobbdedmjmnaaGreatDoorW.PrintLast Go.Proofs.YtmhobbdedmjmnaaGreatDoorW.PrintMore
attribute [local go_sem] max2_int min2_int max_two min_two max_three min_three max_four min_four   -- for this text's walks alone
set_option linter.unusedVariables false
set_option linter.unusedSimpArgs false
mutual
def tacticianlaw02_RowsBags.j0 : Nat → List (List (S61)) → List (S61) → Int → Int → List (List (S61)) → Int → Option (Bool)
  | 0, _, _, _, _, _, _ => none
  | k + 1, x7, x9, x12, x13, x14, x15 => (tacticianref02_List.f k x7 (([x9] : List (List (S61))))).bind fun t583 => (if t583 = 0 then ((tacticianref02_Times.f k x7 x9).bind fun t584 => (if x12 = t584 then (if x13 = 0 then (tacticianlaw02_RowsBags.j1 k x7 x14 x15) else (some false)) else (some false))) else (if x12 = 0 then (if x13 = t583 then (tacticianlaw02_RowsBags.j1 k x7 x14 x15) else (some false)) else (some false)))
def tacticianlaw02_RowsBags.j1 : Nat → List (List (S61)) → List (List (S61)) → Int → Option (Bool)
  | 0, _, _, _ => none
  | k + 1, x7, x14, x15 => (tacticianref02_List.f k x7 ([] : List (List (S61)))).bind fun t585 => (if t585 = 0 then ((tacticianref02_Distinct.f k x7).bind fun t586 => ((tacticianref02_Equal.f k x14 t586).bind fun t589 => (if t589 = true then (if x15 = 0 then ((tacticianlaw02_awake.f).bind fun t590 => (some t590)) else (some false)) else (some false)))) else (if (x14.length : Int) = 0 then (if x15 = t585 then ((tacticianlaw02_awake.f).bind fun t591 => (some t591)) else (some false)) else (some false)))
end
def tacticianlaw02_RowsBags.f (k : Nat) (l0 : List (List (S61))) (l1 : List (List (S61))) (l2 : List (S61)) : Option (Bool) := (tacticianlaw02_Cut.f k l0 30).bind fun t561 => ((tacticianlaw02_Cut.f k l1 30).bind fun t564 => ((tacticianlaw02_CutRow.f k l2).bind fun t567 => ((rows_Same.f t561 t564).bind fun bt570 => ((rows_Times.f t561 t567).bind fun bt572 => ((rows_Distinct.f t561).bind fun bt574 => ((tacticianref02_List.f k t561 t564).bind fun t578 => (if t578 = 0 then ((tacticianref02_Same.f k t561 t564).bind fun t579 => (if (bt570.1 != t579) = true then (some false) else (if bt570.2 = 0 then (tacticianlaw02_RowsBags.j0 k t561 t567 bt572.1 bt572.2 bt574.1 bt574.2) else (some false)))) else (if bt570.1 = true then (some false) else (if bt570.2 = t578 then (tacticianlaw02_RowsBags.j0 k t561 t567 bt572.1 bt572.2 bt574.1 bt574.2) else (some false))))))))))
set_option maxHeartbeats 8000000 in
set_option maxRecDepth 100000 in
theorem tacticianlaw02_RowsBags.calls (k : Nat) (A0 : Option Addr) (c0 : Nat) (l0 : List (List (S61))) (A1 : Option Addr) (c1 : Nat) (l1 : List (List (S61))) (A2 : Option Addr) (c2 : Nat) (l2 : List (S61)) (r : Bool) (w : World) (hr0 : Kd.C (Kd.slice 61 k61) w A0 l0.length l0) (hc0 : l0.length ≤ c0) (hr1 : Kd.C (Kd.slice 61 k61) w A1 l1.length l1) (hc1 : l1.length ≤ c1) (hr2 : Kd.C k61 w A2 l2.length l2) (hc2 : l2.length ≤ c2) (hL_ : Laid w) (hr_ : Aside0 (r = true)) (h : tacticianlaw02_RowsBags.f k l0 l1 l2 = some r) :
  Calls Tryz.prog 9 #[.slice A0 l0.length c0, .slice A1 l1.length c1, .slice A2 l2.length c2] w fun e w' => e = .returned (.bool r) ∧ Below w.heap.size w w' := by
 have HLD := Aside0.mk hL_
 clear hL_
 have HR0 := Aside0.mk hr0
 have HC0 := Aside0.mk hc0
 clear hr0 hc0
 have HR1 := Aside0.mk hr1
 have HC1 := Aside0.mk hc1
 clear hr1 hc1
 have HR2 := Aside0.mk hr2
 have HC2 := Aside0.mk hc2
 clear hr2 hc2
 have HB := Aside0.mk (Below.refl w.heap.size w)
 have H : ((tacticianlaw02_Cut.f k l0 30).bind fun t561 => ((tacticianlaw02_Cut.f k l1 30).bind fun t564 => ((tacticianlaw02_CutRow.f k l2).bind fun t567 => ((rows_Same.f t561 t564).bind fun bt570 => ((rows_Times.f t561 t567).bind fun bt572 => ((rows_Distinct.f t561).bind fun bt574 => ((tacticianref02_List.f k t561 t564).bind fun t578 => (if t578 = 0 then ((tacticianref02_Same.f k t561 t564).bind fun t579 => (if (bt570.1 != t579) = true then (some false) else (if bt570.2 = 0 then (tacticianlaw02_RowsBags.j0 k t561 t567 bt572.1 bt572.2 bt574.1 bt574.2) else (some false)))) else (if bt570.1 = true then (some false) else (if bt570.2 = t578 then (tacticianlaw02_RowsBags.j0 k t561 t567 bt572.1 bt572.2 bt574.1 bt574.2) else (some false))))))))))) = some r := h
 clear h
 replace H := Option.bind_eq_some_iff.mp H
 obtain ⟨t561, A40, H⟩ := H
 replace H : ((tacticianlaw02_Cut.f k l1 30).bind fun t564 => ((tacticianlaw02_CutRow.f k l2).bind fun t567 => ((rows_Same.f t561 t564).bind fun bt570 => ((rows_Times.f t561 t567).bind fun bt572 => ((rows_Distinct.f t561).bind fun bt574 => ((tacticianref02_List.f k t561 t564).bind fun t578 => (if t578 = 0 then ((tacticianref02_Same.f k t561 t564).bind fun t579 => (if (bt570.1 != t579) = true then (some false) else (if bt570.2 = 0 then (tacticianlaw02_RowsBags.j0 k t561 t567 bt572.1 bt572.2 bt574.1 bt574.2) else (some false)))) else (if bt570.1 = true then (some false) else (if bt570.2 = t578 then (tacticianlaw02_RowsBags.j0 k t561 t567 bt572.1 bt572.2 bt574.1 bt574.2) else (some false)))))))))) = some r := H
 have A4 := Aside0.mk A40
 clear A40
 replace H := Option.bind_eq_some_iff.mp H
 obtain ⟨t564, A50, H⟩ := H
 replace H : ((tacticianlaw02_CutRow.f k l2).bind fun t567 => ((rows_Same.f t561 t564).bind fun bt570 => ((rows_Times.f t561 t567).bind fun bt572 => ((rows_Distinct.f t561).bind fun bt574 => ((tacticianref02_List.f k t561 t564).bind fun t578 => (if t578 = 0 then ((tacticianref02_Same.f k t561 t564).bind fun t579 => (if (bt570.1 != t579) = true then (some false) else (if bt570.2 = 0 then (tacticianlaw02_RowsBags.j0 k t561 t567 bt572.1 bt572.2 bt574.1 bt574.2) else (some false)))) else (if bt570.1 = true then (some false) else (if bt570.2 = t578 then (tacticianlaw02_RowsBags.j0 k t561 t567 bt572.1 bt572.2 bt574.1 bt574.2) else (some false))))))))) = some r := H
 have A5 := Aside0.mk A50
 clear A50
 replace H := Option.bind_eq_some_iff.mp H
 obtain ⟨t567, A60, H⟩ := H
 replace H : ((rows_Same.f t561 t564).bind fun bt570 => ((rows_Times.f t561 t567).bind fun bt572 => ((rows_Distinct.f t561).bind fun bt574 => ((tacticianref02_List.f k t561 t564).bind fun t578 => (if t578 = 0 then ((tacticianref02_Same.f k t561 t564).bind fun t579 => (if (bt570.1 != t579) = true then (some false) else (if bt570.2 = 0 then (tacticianlaw02_RowsBags.j0 k t561 t567 bt572.1 bt572.2 bt574.1 bt574.2) else (some false)))) else (if bt570.1 = true then (some false) else (if bt570.2 = t578 then (tacticianlaw02_RowsBags.j0 k t561 t567 bt572.1 bt572.2 bt574.1 bt574.2) else (some false)))))))) = some r := H
 have A6 := Aside0.mk A60
 clear A60
 replace H := Option.bind_eq_some_iff.mp H
 obtain ⟨⟨t570, t571⟩, A70, H⟩ := H
 replace H : ((rows_Times.f t561 t567).bind fun bt572 => ((rows_Distinct.f t561).bind fun bt574 => ((tacticianref02_List.f k t561 t564).bind fun t578 => (if t578 = 0 then ((tacticianref02_Same.f k t561 t564).bind fun t579 => (if (t570 != t579) = true then (some false) else (if t571 = 0 then (tacticianlaw02_RowsBags.j0 k t561 t567 bt572.1 bt572.2 bt574.1 bt574.2) else (some false)))) else (if t570 = true then (some false) else (if t571 = t578 then (tacticianlaw02_RowsBags.j0 k t561 t567 bt572.1 bt572.2 bt574.1 bt574.2) else (some false))))))) = some r := H
 have A7 := Aside0.mk A70
 clear A70
 replace H := Option.bind_eq_some_iff.mp H
 obtain ⟨⟨t572, t573⟩, A80, H⟩ := H
 replace H : ((rows_Distinct.f t561).bind fun bt574 => ((tacticianref02_List.f k t561 t564).bind fun t578 => (if t578 = 0 then ((tacticianref02_Same.f k t561 t564).bind fun t579 => (if (t570 != t579) = true then (some false) else (if t571 = 0 then (tacticianlaw02_RowsBags.j0 k t561 t567 t572 t573 bt574.1 bt574.2) else (some false)))) else (if t570 = true then (some false) else (if t571 = t578 then (tacticianlaw02_RowsBags.j0 k t561 t567 t572 t573 bt574.1 bt574.2) else (some false)))))) = some r := H
 have A8 := Aside0.mk A80
 clear A80
 replace H := Option.bind_eq_some_iff.mp H
 obtain ⟨⟨t574, t575⟩, A90, H⟩ := H
 replace H : ((tacticianref02_List.f k t561 t564).bind fun t578 => (if t578 = 0 then ((tacticianref02_Same.f k t561 t564).bind fun t579 => (if (t570 != t579) = true then (some false) else (if t571 = 0 then (tacticianlaw02_RowsBags.j0 k t561 t567 t572 t573 t574 t575) else (some false)))) else (if t570 = true then (some false) else (if t571 = t578 then (tacticianlaw02_RowsBags.j0 k t561 t567 t572 t573 t574 t575) else (some false))))) = some r := H
 have A9 := Aside0.mk A90
 clear A90
 replace H := Option.bind_eq_some_iff.mp H
 obtain ⟨t578, A100, H⟩ := H
 replace H : (if t578 = 0 then ((tacticianref02_Same.f k t561 t564).bind fun t579 => (if (t570 != t579) = true then (some false) else (if t571 = 0 then (tacticianlaw02_RowsBags.j0 k t561 t567 t572 t573 t574 t575) else (some false)))) else (if t570 = true then (some false) else (if t571 = t578 then (tacticianlaw02_RowsBags.j0 k t561 t567 t572 t573 t574 t575) else (some false)))) = some r := H
 have A10 := Aside0.mk A100
 clear A100
 have HC11 := Aside0.mk H
 clear H
 go_enter Tryz.func9, Tryz.ntmps9
 go_upto_if 46 with (first | ((with_reducible refine gate_callee (f := 14) rfl ?_); refine goesL_ (some 20) rfl rfl Tryz.func14 (by kernel_rfl) rfl #[.slice A0 l0.length c0, .int .i64 30] rfl (by (try simp only [List.map_toArray, List.map_cons, List.map_nil]); first | done | rfl | (simp only [List.length_drop, List.length_take]; rfl)) ?_; (with_reducible refine (tacticianlaw02_Cut.calls k _ _ l0 30 t561 _ ?side1 ?side2 A4.out).mono ?_); (case side1 => repeat (first | exact HR0.out | (with_reducible refine Kd.C_alloc ?_ _) | (with_reducible refine Kd.C_drewN ?_ _) | (with_reducible refine Kd.C_drew ?_))); (case side2 => exact HC0.out); rintro e w12 ⟨v562, rfl, ho0, hb⟩; refine ⟨_, rfl, ?_⟩; have n0_ := Aside0.mk (Kd.N_lower (Kd.N_mono (ok' := fun k_ => True) (Kd.S_N (Kd.S_bound ho0)) (fun k_ hk_ => trivial)) (below_size (by repeat (first | (with_reducible first | exact HB.out | apply yA | apply yN | apply yD) | exact HB.out)))); have n1_ := Aside0.mk (below_step (by repeat (first | (with_reducible first | exact HB.out | apply yA | apply yN | apply yD) | exact HB.out)) hb); clear HB; have HO563 := n0_; have HB := n1_; clear n0_ n1_; (try clear hb); (try clear hb2); (try clear hk); (try clear hi); (try clear ho0)) | ((with_reducible refine gate_callee (f := 14) rfl ?_); refine goesL_ (some 22) rfl rfl Tryz.func14 (by kernel_rfl) rfl #[.slice A1 l1.length c1, .int .i64 30] rfl (by (try simp only [List.map_toArray, List.map_cons, List.map_nil]); first | done | rfl | (simp only [List.length_drop, List.length_take]; rfl)) ?_; (with_reducible refine (tacticianlaw02_Cut.calls k _ _ l1 30 t564 _ ?side1 ?side2 A5.out).mono ?_); (case side1 => repeat (first | exact (Kd.C_below HR1.out HB.out) | (with_reducible refine Kd.C_alloc ?_ _) | (with_reducible refine Kd.C_drewN ?_ _) | (with_reducible refine Kd.C_drew ?_))); (case side2 => exact HC1.out); rintro e w13 ⟨v565, rfl, ho0, hb⟩; refine ⟨_, rfl, ?_⟩; have n0_ := Aside0.mk (Kd.N_elder' (by (with_reducible repeat (first | apply Kd.N_alloc | apply Kd.N_drewN | apply Kd.N_drew)); exact HO563.out) (Kd.N_base (Kd.S_N ho0)) hb); have n1_ := Aside0.mk (Kd.N_lower (Kd.N_mono (ok' := fun k_ => some k_ ≠ (v562 : Value).ownBlock) (Kd.S_N (Kd.S_bound ho0)) (fun k_ hk_ => (Kd.fresh' (Kd.N_lt (by (with_reducible repeat (first | apply Kd.N_alloc | apply Kd.N_drewN | apply Kd.N_drew)); exact HO563.out)) k_ hk_.2.1))) (below_size (by repeat (first | (with_reducible first | exact HB.out | apply yA | apply yN | apply yD) | exact HB.out)))); have n2_ := Aside0.mk (below_step (by repeat (first | (with_reducible first | exact HB.out | apply yA | apply yN | apply yD) | exact HB.out)) hb); clear HO563; clear HB; have HO563 := n0_; have HO566 := n1_; have HB := n2_; clear n0_ n1_ n2_; (try clear hb); (try clear hb2); (try clear hk); (try clear hi); (try clear ho0)) | ((with_reducible refine gate_callee (f := 25) rfl ?_); refine goesL_ (some 24) rfl rfl Tryz.func25 (by kernel_rfl) rfl #[.slice A2 l2.length c2] rfl (by (try simp only [List.map_toArray, List.map_cons, List.map_nil]); first | done | rfl | (simp only [List.length_drop, List.length_take]; rfl)) ?_; (with_reducible refine (tacticianlaw02_CutRow.calls k _ _ l2 t567 _ ?side1 ?side2 A6.out).mono ?_); (case side1 => repeat (first | exact (Kd.C_below HR2.out HB.out) | (with_reducible refine Kd.C_alloc ?_ _) | (with_reducible refine Kd.C_drewN ?_ _) | (with_reducible refine Kd.C_drew ?_))); (case side2 => exact HC2.out); rintro e w14 ⟨v568, rfl, ho0, hb⟩; refine ⟨_, rfl, ?_⟩; have n0_ := Aside0.mk (Kd.N_elder' (by (with_reducible repeat (first | apply Kd.N_alloc | apply Kd.N_drewN | apply Kd.N_drew)); exact HO563.out) (Kd.R_base ho0) hb); have n1_ := Aside0.mk (Kd.N_elder' (by (with_reducible repeat (first | apply Kd.N_alloc | apply Kd.N_drewN | apply Kd.N_drew)); exact HO566.out) (Kd.R_base ho0) hb); have n2_ := Aside0.mk (Kd.R_lower ho0 (below_size (by repeat (first | (with_reducible first | exact HB.out | apply yA | apply yN | apply yD) | exact HB.out)))); have n3_ := Aside0.mk (below_step (by repeat (first | (with_reducible first | exact HB.out | apply yA | apply yN | apply yD) | exact HB.out)) hb); clear HO563; clear HO566; clear HB; have HO563 := n0_; have HO566 := n1_; have HO569 := n2_; have HB := n3_; clear n0_ n1_ n2_ n3_; (try clear hb); (try clear hb2); (try clear hk); (try clear hi); (try clear ho0); obtain ⟨Ao15, co15, eo15⟩ := Kd.N_slice HO563.out; subst eo15; obtain ⟨Ao16, co16, eo16⟩ := Kd.N_slice HO566.out; subst eo16) | ((with_reducible refine gate_callee (f := 42) rfl ?_); refine goesL_ (some 28) rfl rfl Tryz.func42 (by kernel_rfl) rfl #[.slice Ao15 t561.length co15, .slice Ao16 t564.length co16] rfl (by (try simp only [List.map_toArray, List.map_cons, List.map_nil]); first | done | rfl | (simp only [List.length_drop, List.length_take]; rfl)) ?_; (with_reducible refine (rows_Same.calls (fun k_ => ((True ∧ some k_ ≠ (.slice Ao16 t564.length co16 : Value).ownBlock) ∧ some k_ ≠ (v568 : Value).ownBlock)) _ _ t561 (fun k_ => (some k_ ≠ (.slice Ao15 t561.length co15 : Value).ownBlock ∧ some k_ ≠ (v568 : Value).ownBlock)) _ _ t564 t570 t571 _ ?side1 ?side2 A7.out).mono ?_); (case side1 => exact Kd.N_V (HO563.out)); (case side2 => exact Kd.N_V (HO566.out)); rintro e w17 ⟨rfl, hb⟩; refine ⟨_, rfl, ?_⟩; have n0_ := Aside0.mk (Kd.N_below (by (with_reducible repeat (first | apply Kd.N_alloc | apply Kd.N_drewN | apply Kd.N_drew)); exact HO563.out) hb); have n1_ := Aside0.mk (Kd.N_below (by (with_reducible repeat (first | apply Kd.N_alloc | apply Kd.N_drewN | apply Kd.N_drew)); exact HO566.out) hb); have n2_ := Aside0.mk (Kd.R_below (by (with_reducible repeat (first | apply Kd.R_alloc | apply Kd.R_drewN | apply Kd.R_drew)); exact HO569.out) hb); have n3_ := Aside0.mk (below_step (by repeat (first | (with_reducible first | exact HB.out | apply yA | apply yN | apply yD) | exact HB.out)) hb); clear HO563; clear HO566; clear HO569; clear HB; have HO563 := n0_; have HO566 := n1_; have HO569 := n2_; have HB := n3_; clear n0_ n1_ n2_ n3_; (try clear hb); (try clear hb2); (try clear hk); (try clear hi); obtain ⟨Ao18, co18, eo18⟩ := Kd.R_slice HO569.out; subst eo18) | ((with_reducible refine gate_callee (f := 43) rfl ?_); refine goesL_ (some 34) rfl rfl Tryz.func43 (by kernel_rfl) rfl #[.slice Ao15 t561.length co15, .slice Ao18 t567.length co18] rfl (by (try simp only [List.map_toArray, List.map_cons, List.map_nil]); first | done | rfl | (simp only [List.length_drop, List.length_take]; rfl)) ?_; (with_reducible refine (rows_Times.calls _ _ t561 _ _ t567 t572 t573 _ ?side1 ?side2 ?side3 ?side4 A8.out).mono ?_); (case side1 => repeat (first | exact (Kd.N_reads' HO563.out).2.2 | (with_reducible refine Kd.C_alloc ?_ _) | (with_reducible refine Kd.C_drewN ?_ _) | (with_reducible refine Kd.C_drew ?_))); (case side2 => exact (Kd.N_reads' HO563.out).2.1); (case side3 => repeat (first | exact (Kd.R_reads' HO569.out).2.2 | (with_reducible refine Kd.C_alloc ?_ _) | (with_reducible refine Kd.C_drewN ?_ _) | (with_reducible refine Kd.C_drew ?_))); (case side4 => exact (Kd.R_reads' HO569.out).2.1); rintro e w19 ⟨rfl, hb⟩; refine ⟨_, rfl, ?_⟩; have n0_ := Aside0.mk (Kd.N_below (by (with_reducible repeat (first | apply Kd.N_alloc | apply Kd.N_drewN | apply Kd.N_drew)); exact HO563.out) hb); have n1_ := Aside0.mk (Kd.N_below (by (with_reducible repeat (first | apply Kd.N_alloc | apply Kd.N_drewN | apply Kd.N_drew)); exact HO566.out) hb); have n2_ := Aside0.mk (Kd.R_below (by (with_reducible repeat (first | apply Kd.R_alloc | apply Kd.R_drewN | apply Kd.R_drew)); exact HO569.out) hb); have n3_ := Aside0.mk (below_step (by repeat (first | (with_reducible first | exact HB.out | apply yA | apply yN | apply yD) | exact HB.out)) hb); clear HO563; clear HO566; clear HO569; clear HB; have HO563 := n0_; have HO566 := n1_; have HO569 := n2_; have HB := n3_; clear n0_ n1_ n2_ n3_; (try clear hb); (try clear hb2); (try clear hk); (try clear hi)) | ((with_reducible refine gate_callee (f := 40) rfl ?_); refine goesL_ (some 39) rfl rfl Tryz.func40 (by kernel_rfl) rfl #[.slice Ao15 t561.length co15] rfl (by (try simp only [List.map_toArray, List.map_cons, List.map_nil]); first | done | rfl | (simp only [List.length_drop, List.length_take]; rfl)) ?_; (with_reducible refine (rows_Distinct.calls _ _ t561 t574 t575 _ ?side1 ?side2 A9.out).mono ?_); (case side1 => repeat (first | exact (Kd.N_reads' HO563.out).2.2 | (with_reducible refine Kd.C_alloc ?_ _) | (with_reducible refine Kd.C_drewN ?_ _) | (with_reducible refine Kd.C_drew ?_))); (case side2 => exact (Kd.N_reads' HO563.out).2.1); rintro e w20 ⟨v576, rfl, ho0, hb⟩; refine ⟨_, rfl, ?_⟩; have n0_ := Aside0.mk (Kd.N_elder' (by (with_reducible repeat (first | apply Kd.N_alloc | apply Kd.N_drewN | apply Kd.N_drew)); exact HO563.out) (Kd.N_base (Kd.S_N ho0)) hb); have n1_ := Aside0.mk (Kd.N_elder' (by (with_reducible repeat (first | apply Kd.N_alloc | apply Kd.N_drewN | apply Kd.N_drew)); exact HO566.out) (Kd.N_base (Kd.S_N ho0)) hb); have n2_ := Aside0.mk (Kd.R_below (by (with_reducible repeat (first | apply Kd.R_alloc | apply Kd.R_drewN | apply Kd.R_drew)); exact HO569.out) hb); have n3_ := Aside0.mk (Kd.N_lower (Kd.N_mono (ok' := fun k_ => some k_ ≠ (.slice Ao15 t561.length co15 : Value).ownBlock ∧ some k_ ≠ (.slice Ao16 t564.length co16 : Value).ownBlock ∧ some k_ ≠ (.slice Ao18 t567.length co18 : Value).ownBlock) (Kd.S_N (Kd.S_bound ho0)) (fun k_ hk_ => ⟨(Kd.fresh' (Kd.N_lt (by (with_reducible repeat (first | apply Kd.N_alloc | apply Kd.N_drewN | apply Kd.N_drew)); exact HO563.out)) k_ hk_.2.1), (Kd.fresh' (Kd.N_lt (by (with_reducible repeat (first | apply Kd.N_alloc | apply Kd.N_drewN | apply Kd.N_drew)); exact HO566.out)) k_ hk_.2.1), (Kd.fresh' (Kd.R_lt (by (with_reducible repeat (first | apply Kd.R_alloc | apply Kd.R_drewN | apply Kd.R_drew)); exact HO569.out)) k_ hk_.2.1)⟩)) (below_size (by repeat (first | (with_reducible first | exact HB.out | apply yA | apply yN | apply yD) | exact HB.out)))); have n4_ := Aside0.mk (below_step (by repeat (first | (with_reducible first | exact HB.out | apply yA | apply yN | apply yD) | exact HB.out)) hb); clear HO563; clear HO566; clear HO569; clear HB; have HO563 := n0_; have HO566 := n1_; have HO569 := n2_; have HO577 := n3_; have HB := n4_; clear n0_ n1_ n2_ n3_ n4_; (try clear hb); (try clear hb2); (try clear hk); (try clear hi); (try clear ho0)) | ((with_reducible refine gate_callee (f := 17) rfl ?_); refine goesL_ (some 44) rfl rfl Tryz.func17 (by kernel_rfl) rfl #[.slice Ao15 t561.length co15, .slice Ao16 t564.length co16] rfl (by (try simp only [List.map_toArray, List.map_cons, List.map_nil]); first | done | rfl | (simp only [List.length_drop, List.length_take]; rfl)) ?_; (with_reducible refine (tacticianref02_List.calls k _ _ t561 _ _ t564 t578 _ ?side1 ?side2 ?side3 ?side4 A10.out).mono ?_); (case side1 => repeat (first | exact (Kd.N_reads' HO563.out).2.2 | (with_reducible refine Kd.C_alloc ?_ _) | (with_reducible refine Kd.C_drewN ?_ _) | (with_reducible refine Kd.C_drew ?_))); (case side2 => exact (Kd.N_reads' HO563.out).2.1); (case side3 => repeat (first | exact (Kd.N_reads' HO566.out).2.2 | (with_reducible refine Kd.C_alloc ?_ _) | (with_reducible refine Kd.C_drewN ?_ _) | (with_reducible refine Kd.C_drew ?_))); (case side4 => exact (Kd.N_reads' HO566.out).2.1); rintro e w21 ⟨rfl, hb⟩; refine ⟨_, rfl, ?_⟩; have n0_ := Aside0.mk (Kd.N_below (by (with_reducible repeat (first | apply Kd.N_alloc | apply Kd.N_drewN | apply Kd.N_drew)); exact HO563.out) hb); have n1_ := Aside0.mk (Kd.N_below (by (with_reducible repeat (first | apply Kd.N_alloc | apply Kd.N_drewN | apply Kd.N_drew)); exact HO566.out) hb); have n2_ := Aside0.mk (Kd.R_below (by (with_reducible repeat (first | apply Kd.R_alloc | apply Kd.R_drewN | apply Kd.R_drew)); exact HO569.out) hb); have n3_ := Aside0.mk (Kd.N_below (by (with_reducible repeat (first | apply Kd.N_alloc | apply Kd.N_drewN | apply Kd.N_drew)); exact HO577.out) hb); have n4_ := Aside0.mk (below_step (by repeat (first | (with_reducible first | exact HB.out | apply yA | apply yN | apply yD) | exact HB.out)) hb); clear HO563; clear HO566; clear HO569; clear HO577; clear HB; have HO563 := n0_; have HO566 := n1_; have HO569 := n2_; have HO577 := n3_; have HB := n4_; clear n0_ n1_ n2_ n3_ n4_; (try clear hb); (try clear hb2); (try clear hk); (try clear hi)))
 (try simp only [Act.put, List.setIfInBounds_toArray, List.set_cons_zero, List.set_cons_succ])
 go_cut [] (fun wc => ∃ (kq : Nat), Aside0 (tacticianlaw02_RowsBags.j0 kq t561 t567 t572 t573 t574 t575 = some r) ∧ Aside0 (kq ≤ k) ∧ Aside0 (Kd.N (Kd.slice 61 k61) 40 wc w.heap.size (fun k_ => some k_ ≠ ((.slice Ao18 t567.length co18) : Value).ownBlock ∧ some k_ ≠ (v576 : Value).ownBlock) (.slice Ao15 t561.length co15) t561) ∧ Aside0 (Kd.R k61 61 wc w.heap.size (fun _ => True) (.slice Ao18 t567.length co18) t567) ∧ Aside0 (Kd.N (Kd.slice 61 k61) 40 wc w.heap.size (fun k_ => some k_ ≠ ((.slice Ao15 t561.length co15) : Value).ownBlock ∧ some k_ ≠ ((.slice Ao18 t567.length co18) : Value).ownBlock) v576 t574) ∧ Aside0 (Below w.heap.size w wc))
 case first =>
  have H := HC11.out
  clear HC11
  by_cases c22 : t578 = 0
  ·rw [if_pos c22] at H
   have c22b0 : (t578 == 0) = true := beq_iff_eq.mpr c22
   have c22b1 : (t578 != 0) = false := bne_eq_false_iff_eq.mpr c22
   clear c22
   (first | rw [c22b0] | (simp only [i64_w, i32_w]; rw [c22b0]) | skip)
   replace H := Option.bind_eq_some_iff.mp H
   obtain ⟨t579, A230, H⟩ := H
   replace H : (if (t570 != t579) = true then (some false) else (if t571 = 0 then (tacticianlaw02_RowsBags.j0 k t561 t567 t572 t573 t574 t575) else (some false))) = some r := H
   have A23 := Aside0.mk A230
   clear A230
   by_cases c24 : (t570 != t579) = true
   ·rw [if_pos c24] at H
    have c24b0 : (t570 != t579) = true := c24
    (try (have c24b1 : decide (t570 = t579) = false := by simpa using c24))
    (try (have c24b2 : (t570 == t579) = false := by simpa using c24))
    (try (have c24b3 : ¬ (t570 = t579) := by simpa using c24))
    clear c24
    exact absurd ((Option.some.inj H).trans hr_.out) (by decide)
   ·rw [if_neg c24] at H
    have c24b0 : (t570 != t579) = false := by simpa using c24
    (try (have c24b1 : decide (t570 = t579) = true := by simpa using c24))
    (try (have c24b2 : (t570 == t579) = true := by simpa using c24))
    clear c24
    by_cases c25 : t571 = 0
    ·rw [if_pos c25] at H
     have c25b0 : (t571 == 0) = true := beq_iff_eq.mpr c25
     have c25b1 : (t571 != 0) = false := bne_eq_false_iff_eq.mpr c25
     clear c25
     have H' := Aside0.mk H
     clear H
     go_wp2_with (first | ((with_reducible refine gate_callee (f := 44) rfl ?_); refine goesL_ (some 56) rfl rfl Tryz.func44 (by kernel_rfl) rfl #[.slice Ao15 t561.length co15, .slice Ao16 t564.length co16] rfl (by (try simp only [List.map_toArray, List.map_cons, List.map_nil]); first | done | rfl | (simp only [List.length_drop, List.length_take]; rfl)) ?_; (with_reducible refine (tacticianref02_Same.calls k _ _ t561 _ _ t564 t579 _ ?side1 ?side2 ?side3 ?side4 A23.out).mono ?_); (case side1 => repeat (first | exact (Kd.N_reads' HO563.out).2.2 | (with_reducible refine Kd.C_alloc ?_ _) | (with_reducible refine Kd.C_drewN ?_ _) | (with_reducible refine Kd.C_drew ?_))); (case side2 => exact (Kd.N_reads' HO563.out).2.1); (case side3 => repeat (first | exact (Kd.N_reads' HO566.out).2.2 | (with_reducible refine Kd.C_alloc ?_ _) | (with_reducible refine Kd.C_drewN ?_ _) | (with_reducible refine Kd.C_drew ?_))); (case side4 => exact (Kd.N_reads' HO566.out).2.1); rintro e w26 ⟨rfl, hb⟩; refine ⟨_, rfl, ?_⟩; have n0_ := Aside0.mk (Kd.N_below (by (with_reducible repeat (first | apply Kd.N_alloc | apply Kd.N_drewN | apply Kd.N_drew)); exact HO563.out) hb); have n1_ := Aside0.mk (Kd.N_below (by (with_reducible repeat (first | apply Kd.N_alloc | apply Kd.N_drewN | apply Kd.N_drew)); exact HO566.out) hb); have n2_ := Aside0.mk (Kd.R_below (by (with_reducible repeat (first | apply Kd.R_alloc | apply Kd.R_drewN | apply Kd.R_drew)); exact HO569.out) hb); have n3_ := Aside0.mk (Kd.N_below (by (with_reducible repeat (first | apply Kd.N_alloc | apply Kd.N_drewN | apply Kd.N_drew)); exact HO577.out) hb); have n4_ := Aside0.mk (below_step (by repeat (first | (with_reducible first | exact HB.out | apply yA | apply yN | apply yD) | exact HB.out)) hb); clear HO563; clear HO566; clear HO569; clear HO577; clear HB; have HO563 := n0_; have HO566 := n1_; have HO569 := n2_; have HO577 := n3_; have HB := n4_; clear n0_ n1_ n2_ n3_ n4_; (try clear hb); (try clear hb2); (try clear hk); (try clear hi)))
     go_meet
     case rel => exact ⟨_, H', ⟨by first | omega | exact Nat.le_refl _⟩, ⟨by (with_reducible repeat (first | apply Kd.N_alloc | apply Kd.N_drewN | apply Kd.N_drew)); exact Kd.N_mono HO563.out (fun _ hk => ⟨hk.1.2, hk.2⟩)⟩, ⟨by (with_reducible repeat (first | apply Kd.R_alloc | apply Kd.R_drewN | apply Kd.R_drew)); exact HO569.out⟩, ⟨by (with_reducible repeat (first | apply Kd.N_alloc | apply Kd.N_drewN | apply Kd.N_drew)); exact Kd.N_mono HO577.out (fun _ hk => ⟨hk.1, hk.2.2⟩)⟩, ⟨by repeat (first | (with_reducible first | exact HB.out | apply yA | apply yN | apply yD) | exact HB.out)⟩⟩
    ·rw [if_neg c25] at H
     have c25b0 : (t571 == 0) = false := beq_eq_false_iff_ne.mpr c25
     have c25b1 : (t571 != 0) = true := bne_iff_ne.mpr c25
     exact absurd ((Option.some.inj H).trans hr_.out) (by decide)
  ·rw [if_neg c22] at H
   have c22b0 : (t578 == 0) = false := beq_eq_false_iff_ne.mpr c22
   have c22b1 : (t578 != 0) = true := bne_iff_ne.mpr c22
   (first | rw [c22b0] | (simp only [i64_w, i32_w]; rw [c22b0]) | skip)
   by_cases c27 : t570 = true
   ·subst c27
    have H1 : (some false) = some r := by rw [if_pos rfl] at H; exact H
    clear H
    have H := H1
    clear H1
    exact absurd ((Option.some.inj H).trans hr_.out) (by decide)
   ·replace c27 := Bool.eq_false_iff.mpr c27
    subst c27
    have H1 : (if t571 = t578 then (tacticianlaw02_RowsBags.j0 k t561 t567 t572 t573 t574 t575) else (some false)) = some r := by rw [if_neg (show ¬ (false = true) by decide)] at H; exact H
    clear H
    have H := H1
    clear H1
    by_cases c28 : t571 = t578
    ·rw [if_pos c28] at H
     have c28b0 : (t571 == t578) = true := beq_iff_eq.mpr c28
     have c28b1 : (t571 != t578) = false := bne_eq_false_iff_eq.mpr c28
     clear c28
     have H' := Aside0.mk H
     clear H
     go_wp2
     go_meet
     case rel => exact ⟨_, H', ⟨by first | omega | exact Nat.le_refl _⟩, ⟨by (with_reducible repeat (first | apply Kd.N_alloc | apply Kd.N_drewN | apply Kd.N_drew)); exact Kd.N_mono HO563.out (fun _ hk => ⟨hk.1.2, hk.2⟩)⟩, ⟨by (with_reducible repeat (first | apply Kd.R_alloc | apply Kd.R_drewN | apply Kd.R_drew)); exact HO569.out⟩, ⟨by (with_reducible repeat (first | apply Kd.N_alloc | apply Kd.N_drewN | apply Kd.N_drew)); exact Kd.N_mono HO577.out (fun _ hk => ⟨hk.1, hk.2.2⟩)⟩, ⟨by repeat (first | (with_reducible first | exact HB.out | apply yA | apply yN | apply yD) | exact HB.out)⟩⟩
    ·rw [if_neg c28] at H
     have c28b0 : (t571 == t578) = false := beq_eq_false_iff_ne.mpr c28
     have c28b1 : (t571 != t578) = true := bne_iff_ne.mpr c28
     exact absurd ((Option.some.inj H).trans hr_.out) (by decide)
 case rest =>
  clear HC11
  try clear c1
  try clear c2
  try clear p2
  try clear c4
  try clear c9
  try clear c14
  try clear c17
  try clear c22
  try clear c22b0
  try clear c22b1
  try clear c24
  try clear c24b0
  try clear c24b1
  try clear c24b2
  try clear c25
  try clear c25b0
  try clear c25b1
  try clear c27
  try clear c28
  try clear c28b0
  try clear c28b1
  obtain ⟨kq, HA, HJ10, HO_7, HO_9, HO_14, HB⟩ := hcut
  cases kq with
  | zero => exact absurd HA.out (by simp [tacticianlaw02_RowsBags.j0])
  | succ kj10 =>
   have H := HA.out
   clear HA
   simp only [tacticianlaw02_RowsBags.j0] at H
   obtain ⟨y580, hy580⟩ : ∃ y_ : List (List (S61)), y_ = (([t567] : List (List (S61)))) := ⟨_, rfl⟩
   replace H : ((tacticianref02_List.f kj10 t561 y580).bind fun t583 => (if t583 = 0 then ((tacticianref02_Times.f kj10 t561 t567).bind fun t584 => (if t572 = t584 then (if t573 = 0 then (tacticianlaw02_RowsBags.j1 kj10 t561 t574 t575) else (some false)) else (some false))) else (if t572 = 0 then (if t573 = t583 then (tacticianlaw02_RowsBags.j1 kj10 t561 t574 t575) else (some false)) else (some false)))) = some r := by first | (rw [hy580]; with_reducible exact H) | (have H2_ := (Option.bind_some _ _).symm.trans H; rw [hy580]; with_reducible exact H2_) | (have H2_ := (Option.bind_some _ _).symm.trans H; with_reducible exact H2_) | with_reducible exact H | (rw [hy580]; exact H) | exact H
   have Ny580 := Aside0.mk hy580
   clear hy580
   replace H := Option.bind_eq_some_iff.mp H
   obtain ⟨t583, A290, H⟩ := H
   replace H : (if t583 = 0 then ((tacticianref02_Times.f kj10 t561 t567).bind fun t584 => (if t572 = t584 then (if t573 = 0 then (tacticianlaw02_RowsBags.j1 kj10 t561 t574 t575) else (some false)) else (some false))) else (if t572 = 0 then (if t573 = t583 then (tacticianlaw02_RowsBags.j1 kj10 t561 t574 t575) else (some false)) else (some false))) = some r := H
   have A29 := Aside0.mk A290
   clear A290
   have HC30 := Aside0.mk H
   clear H
   go_upto_if 67 with (first | ((with_reducible refine gate_dst (N := 64) rfl ?_); refine Kd.N_lit (Kd.slice 61 k61) _ 40 ?hg (N' := 64) ?hd (xs := ([t567] : List (List (S61)))) (inner := [.slice Ao18 t567.length co18]) (ok := (fun k_ => some k_ ≠ (.slice Ao15 t561.length co15 : Value).ownBlock ∧ some k_ ≠ (v576 : Value).ownBlock)) (okp := (fun k_ => some k_ ≠ (.slice Ao15 t561.length co15 : Value).ownBlock ∧ some k_ ≠ (v576 : Value).ownBlock)) ?hr ?hp (fun _ hk => hk) ((show ∀ k_, wc.heap.size ≤ k_ → (fun k_ => some k_ ≠ (.slice Ao15 t561.length co15 : Value).ownBlock ∧ some k_ ≠ (v576 : Value).ownBlock) k_ from fun k_ hk => ⟨Kd.fresh' (Kd.N_lt (by (with_reducible repeat (first | apply Kd.N_alloc | apply Kd.N_drewN | apply Kd.N_drew)); exact HO_7.out)) k_ hk, Kd.fresh' (Kd.N_lt (by (with_reducible repeat (first | apply Kd.N_alloc | apply Kd.N_drewN | apply Kd.N_drew)); exact HO_14.out)) k_ hk⟩) _ (Nat.le_refl _)) (Below.refl _ _) (Nat.le_refl _) (by simp) ?_; (case hd => rfl); (case hg => rfl); (case hr => first | (go_simp; done) | (go_simp; rfl)); (case hp => exact (Reps.one (show Kd.FK (Kd.slice 61 k61) _ _ t567 [.slice Ao18 t567.length co18] from (Kd.FK_slice_mk (Kd.R_reads' (Kd.R_mono (ok' := (fun k_ => some k_ ≠ (.slice Ao15 t561.length co15 : Value).ownBlock ∧ some k_ ≠ (v576 : Value).ownBlock)) (Kd.R_apart' (Kd.R_apart' (HO_9.out) (Kd.N_typed HO_7.out) (by decide)) (Kd.N_typed HO_14.out) (by decide)) (fun k_ hk => ⟨hk.1.2, hk.2⟩))).2.1 (Kd.R_F (Kd.R_mono (ok' := (fun k_ => some k_ ≠ (.slice Ao15 t561.length co15 : Value).ownBlock ∧ some k_ ≠ (v576 : Value).ownBlock)) (Kd.R_apart' (Kd.R_apart' (HO_9.out) (Kd.N_typed HO_7.out) (by decide)) (Kd.N_typed HO_14.out) (by decide)) (fun k_ hk => ⟨hk.1.2, hk.2⟩))))) (Reps.none _ _))); intro v581 w31 ho32 hb hg_ hnew_; clear hg_ hnew_; (first | rw [← Ny580.out] at ho32 | (simp only [Int.reduceToNat] at ho32; rw [← Ny580.out] at ho32)); have k_9_ := Aside0.mk (Kd.R_below (by (with_reducible repeat (first | apply Kd.R_alloc | apply Kd.R_drewN | apply Kd.R_drew)); exact HO_9.out) hb); have n0_ := Aside0.mk (Kd.N_elder' (by (with_reducible repeat (first | apply Kd.N_alloc | apply Kd.N_drewN | apply Kd.N_drew)); exact HO_7.out) (Kd.N_base ho32) hb); have n1_ := Aside0.mk (Kd.N_elder' (by (with_reducible repeat (first | apply Kd.N_alloc | apply Kd.N_drewN | apply Kd.N_drew)); exact HO_14.out) (Kd.N_base ho32) hb); have n2_ := Aside0.mk (Kd.N_lower ho32 (below_size (by repeat (first | (with_reducible first | exact HB.out | apply yA | apply yN | apply yD) | exact HB.out)))); have n3_ := Aside0.mk (below_step (by repeat (first | (with_reducible first | exact HB.out | apply yA | apply yN | apply yD) | exact HB.out)) hb); clear HO_7; clear HO_14; clear HB; clear HO_9; have HO_9 := k_9_; clear k_9_; have HO_7 := n0_; have HO_14 := n1_; have HO582 := n2_; have HB := n3_; clear n0_ n1_ n2_ n3_; clear hb ho32; obtain ⟨Ao33, co33, eo33⟩ := Kd.N_slice HO582.out; subst eo33) | ((with_reducible refine gate_callee (f := 17) rfl ?_); refine goesL_ (some 65) rfl rfl Tryz.func17 (by kernel_rfl) rfl #[.slice Ao15 t561.length co15, .slice Ao33 y580.length co33] rfl (by (try simp only [List.map_toArray, List.map_cons, List.map_nil]); first | done | rfl | (simp only [List.length_drop, List.length_take]; rfl)) ?_; (with_reducible refine (tacticianref02_List.calls kj10 _ _ t561 _ _ y580 t583 _ ?side1 ?side2 ?side3 ?side4 A29.out).mono ?_); (case side1 => repeat (first | exact (Kd.N_reads' HO_7.out).2.2 | (with_reducible refine Kd.C_alloc ?_ _) | (with_reducible refine Kd.C_drewN ?_ _) | (with_reducible refine Kd.C_drew ?_))); (case side2 => exact (Kd.N_reads' HO_7.out).2.1); (case side3 => repeat (first | exact (Kd.N_reads' HO582.out).2.2 | (with_reducible refine Kd.C_alloc ?_ _) | (with_reducible refine Kd.C_drewN ?_ _) | (with_reducible refine Kd.C_drew ?_))); (case side4 => exact (Kd.N_reads' HO582.out).2.1); rintro e w34 ⟨rfl, hb⟩; refine ⟨_, rfl, ?_⟩; have k_9_ := Aside0.mk (Kd.R_below (by (with_reducible repeat (first | apply Kd.R_alloc | apply Kd.R_drewN | apply Kd.R_drew)); exact HO_9.out) hb); clear HO_9; have HO_9 := k_9_; clear k_9_; have n0_ := Aside0.mk (Kd.N_below (by (with_reducible repeat (first | apply Kd.N_alloc | apply Kd.N_drewN | apply Kd.N_drew)); exact HO_7.out) hb); have n1_ := Aside0.mk (Kd.N_below (by (with_reducible repeat (first | apply Kd.N_alloc | apply Kd.N_drewN | apply Kd.N_drew)); exact HO_14.out) hb); have n2_ := Aside0.mk (Kd.N_below (by (with_reducible repeat (first | apply Kd.N_alloc | apply Kd.N_drewN | apply Kd.N_drew)); exact HO582.out) hb); have n3_ := Aside0.mk (below_step (by repeat (first | (with_reducible first | exact HB.out | apply yA | apply yN | apply yD) | exact HB.out)) hb); clear HO_7; clear HO_14; clear HO582; clear HB; have HO_7 := n0_; have HO_14 := n1_; have HO582 := n2_; have HB := n3_; clear n0_ n1_ n2_ n3_; (try clear hb); (try clear hb2); (try clear hk); (try clear hi)))
   (try simp only [Act.put, List.setIfInBounds_toArray, List.set_cons_zero, List.set_cons_succ])
   go_cut [] (fun wc => ∃ (kq : Nat), Aside0 (tacticianlaw02_RowsBags.j1 kq t561 t574 t575 = some r) ∧ Aside0 (kq ≤ kj10) ∧ Aside0 (Kd.N (Kd.slice 61 k61) 40 wc w.heap.size (fun k_ => some k_ ≠ (v576 : Value).ownBlock) (.slice Ao15 t561.length co15) t561) ∧ Aside0 (Kd.N (Kd.slice 61 k61) 40 wc w.heap.size (fun k_ => some k_ ≠ ((.slice Ao15 t561.length co15) : Value).ownBlock) v576 t574) ∧ Aside0 (Below w.heap.size w wc))
   case first =>
    have H := HC30.out
    clear HC30
    by_cases c35 : t583 = 0
    ·rw [if_pos c35] at H
     have c35b0 : (t583 == 0) = true := beq_iff_eq.mpr c35
     have c35b1 : (t583 != 0) = false := bne_eq_false_iff_eq.mpr c35
     clear c35
     (first | rw [c35b0] | (simp only [i64_w, i32_w]; rw [c35b0]) | skip)
     replace H := Option.bind_eq_some_iff.mp H
     obtain ⟨t584, A360, H⟩ := H
     replace H : (if t572 = t584 then (if t573 = 0 then (tacticianlaw02_RowsBags.j1 kj10 t561 t574 t575) else (some false)) else (some false)) = some r := H
     have A36 := Aside0.mk A360
     clear A360
     by_cases c37 : t572 = t584
     ·rw [if_pos c37] at H
      have c37b0 : (t572 == t584) = true := beq_iff_eq.mpr c37
      have c37b1 : (t572 != t584) = false := bne_eq_false_iff_eq.mpr c37
      clear c37
      by_cases c38 : t573 = 0
      ·rw [if_pos c38] at H
       have c38b0 : (t573 == 0) = true := beq_iff_eq.mpr c38
       have c38b1 : (t573 != 0) = false := bne_eq_false_iff_eq.mpr c38
       clear c38
       have H' := Aside0.mk H
       clear H
       go_wp2_with (first | ((with_reducible refine gate_callee (f := 45) rfl ?_); refine goesL_ (some 78) rfl rfl Tryz.func45 (by kernel_rfl) rfl #[.slice Ao15 t561.length co15, .slice Ao18 t567.length co18] rfl (by (try simp only [List.map_toArray, List.map_cons, List.map_nil]); first | done | rfl | (simp only [List.length_drop, List.length_take]; rfl)) ?_; (with_reducible refine (tacticianref02_Times.calls kj10 _ _ t561 _ _ t567 t584 _ ?side1 ?side2 ?side3 ?side4 A36.out).mono ?_); (case side1 => repeat (first | exact (Kd.N_reads' HO_7.out).2.2 | (with_reducible refine Kd.C_alloc ?_ _) | (with_reducible refine Kd.C_drewN ?_ _) | (with_reducible refine Kd.C_drew ?_))); (case side2 => exact (Kd.N_reads' HO_7.out).2.1); (case side3 => repeat (first | exact (Kd.R_reads' HO_9.out).2.2 | (with_reducible refine Kd.C_alloc ?_ _) | (with_reducible refine Kd.C_drewN ?_ _) | (with_reducible refine Kd.C_drew ?_))); (case side4 => exact (Kd.R_reads' HO_9.out).2.1); rintro e w39 ⟨rfl, hb⟩; refine ⟨_, rfl, ?_⟩; have n0_ := Aside0.mk (Kd.N_below (by (with_reducible repeat (first | apply Kd.N_alloc | apply Kd.N_drewN | apply Kd.N_drew)); exact HO_7.out) hb); have n1_ := Aside0.mk (Kd.N_below (by (with_reducible repeat (first | apply Kd.N_alloc | apply Kd.N_drewN | apply Kd.N_drew)); exact HO_14.out) hb); have n2_ := Aside0.mk (Kd.N_below (by (with_reducible repeat (first | apply Kd.N_alloc | apply Kd.N_drewN | apply Kd.N_drew)); exact HO582.out) hb); have n3_ := Aside0.mk (below_step (by repeat (first | (with_reducible first | exact HB.out | apply yA | apply yN | apply yD) | exact HB.out)) hb); clear HO_7; clear HO_14; clear HO582; clear HB; have HO_7 := n0_; have HO_14 := n1_; have HO582 := n2_; have HB := n3_; clear n0_ n1_ n2_ n3_; (try clear hb); (try clear hb2); (try clear hk); (try clear hi)))
       go_meet
       case rel => exact ⟨_, H', ⟨by have := HJ10.out; first | omega | exact Nat.le_refl _⟩, ⟨by (with_reducible repeat (first | apply Kd.N_alloc | apply Kd.N_drewN | apply Kd.N_drew)); exact Kd.N_mono HO_7.out (fun _ hk => hk.1.2)⟩, ⟨by (with_reducible repeat (first | apply Kd.N_alloc | apply Kd.N_drewN | apply Kd.N_drew)); exact Kd.N_mono HO_14.out (fun _ hk => hk.1.1)⟩, ⟨by repeat (first | (with_reducible first | exact HB.out | apply yA | apply yN | apply yD) | exact HB.out)⟩⟩
      ·rw [if_neg c38] at H
       have c38b0 : (t573 == 0) = false := beq_eq_false_iff_ne.mpr c38
       have c38b1 : (t573 != 0) = true := bne_iff_ne.mpr c38
       exact absurd ((Option.some.inj H).trans hr_.out) (by decide)
     ·rw [if_neg c37] at H
      have c37b0 : (t572 == t584) = false := beq_eq_false_iff_ne.mpr c37
      have c37b1 : (t572 != t584) = true := bne_iff_ne.mpr c37
      exact absurd ((Option.some.inj H).trans hr_.out) (by decide)
    ·rw [if_neg c35] at H
     have c35b0 : (t583 == 0) = false := beq_eq_false_iff_ne.mpr c35
     have c35b1 : (t583 != 0) = true := bne_iff_ne.mpr c35
     (first | rw [c35b0] | (simp only [i64_w, i32_w]; rw [c35b0]) | skip)
     by_cases c40 : t572 = 0
     ·rw [if_pos c40] at H
      have c40b0 : (t572 == 0) = true := beq_iff_eq.mpr c40
      have c40b1 : (t572 != 0) = false := bne_eq_false_iff_eq.mpr c40
      clear c40
      by_cases c41 : t573 = t583
      ·rw [if_pos c41] at H
       have c41b0 : (t573 == t583) = true := beq_iff_eq.mpr c41
       have c41b1 : (t573 != t583) = false := bne_eq_false_iff_eq.mpr c41
       clear c41
       have H' := Aside0.mk H
       clear H
       go_wp2
       go_meet
       case rel => exact ⟨_, H', ⟨by have := HJ10.out; first | omega | exact Nat.le_refl _⟩, ⟨by (with_reducible repeat (first | apply Kd.N_alloc | apply Kd.N_drewN | apply Kd.N_drew)); exact Kd.N_mono HO_7.out (fun _ hk => hk.1.2)⟩, ⟨by (with_reducible repeat (first | apply Kd.N_alloc | apply Kd.N_drewN | apply Kd.N_drew)); exact Kd.N_mono HO_14.out (fun _ hk => hk.1.1)⟩, ⟨by repeat (first | (with_reducible first | exact HB.out | apply yA | apply yN | apply yD) | exact HB.out)⟩⟩
      ·rw [if_neg c41] at H
       have c41b0 : (t573 == t583) = false := beq_eq_false_iff_ne.mpr c41
       have c41b1 : (t573 != t583) = true := bne_iff_ne.mpr c41
       exact absurd ((Option.some.inj H).trans hr_.out) (by decide)
     ·rw [if_neg c40] at H
      have c40b0 : (t572 == 0) = false := beq_eq_false_iff_ne.mpr c40
      have c40b1 : (t572 != 0) = true := bne_iff_ne.mpr c40
      exact absurd ((Option.some.inj H).trans hr_.out) (by decide)
   case rest =>
    clear HC30
    try clear c1
    try clear c2
    try clear p2
    try clear c3
    try clear c4
    try clear c9
    try clear c14
    try clear c17
    try clear c22
    try clear c22b0
    try clear c22b1
    try clear c24
    try clear c24b0
    try clear c24b1
    try clear c24b2
    try clear c25
    try clear c25b0
    try clear c25b1
    try clear c27
    try clear c28
    try clear c28b0
    try clear c28b1
    try clear c35
    try clear c35b0
    try clear c35b1
    try clear c37
    try clear c37b0
    try clear c37b1
    try clear c38
    try clear c38b0
    try clear c38b1
    try clear c40
    try clear c40b0
    try clear c40b1
    try clear c41
    try clear c41b0
    try clear c41b1
    try clear p2
    obtain ⟨kq, HA, HJ29, HO_7, HO_14, HB⟩ := hcut
    cases kq with
    | zero => exact absurd HA.out (by simp [tacticianlaw02_RowsBags.j1])
    | succ kj29 =>
     have H := HA.out
     clear HA
     simp only [tacticianlaw02_RowsBags.j1] at H
     replace H := Option.bind_eq_some_iff.mp H
     obtain ⟨t585, A420, H⟩ := H
     replace H : (if t585 = 0 then ((tacticianref02_Distinct.f kj29 t561).bind fun t586 => ((tacticianref02_Equal.f kj29 t574 t586).bind fun t589 => (if t589 = true then (if t575 = 0 then ((tacticianlaw02_awake.f).bind fun t590 => (some t590)) else (some false)) else (some false)))) else (if (t574.length : Int) = 0 then (if t575 = t585 then ((tacticianlaw02_awake.f).bind fun t591 => (some t591)) else (some false)) else (some false))) = some r := H
     have A42 := Aside0.mk A420
     clear A420
     by_cases c43 : t585 = 0
     ·rw [if_pos c43] at H
      have c43b0 : (t585 == 0) = true := beq_iff_eq.mpr c43
      have c43b1 : (t585 != 0) = false := bne_eq_false_iff_eq.mpr c43
      clear c43
      replace H := Option.bind_eq_some_iff.mp H
      obtain ⟨t586, A440, H⟩ := H
      replace H : ((tacticianref02_Equal.f kj29 t574 t586).bind fun t589 => (if t589 = true then (if t575 = 0 then ((tacticianlaw02_awake.f).bind fun t590 => (some t590)) else (some false)) else (some false))) = some r := H
      have A44 := Aside0.mk A440
      clear A440
      replace H := Option.bind_eq_some_iff.mp H
      obtain ⟨t589, A450, H⟩ := H
      replace H : (if t589 = true then (if t575 = 0 then ((tacticianlaw02_awake.f).bind fun t590 => (some t590)) else (some false)) else (some false)) = some r := H
      have A45 := Aside0.mk A450
      clear A450
      by_cases c46 : t589 = true
      ·subst c46
       have H1 : (if t575 = 0 then ((tacticianlaw02_awake.f).bind fun t590 => (some t590)) else (some false)) = some r := by rw [if_pos rfl] at H; exact H
       clear H
       have H := H1
       clear H1
       by_cases c47 : t575 = 0
       ·rw [if_pos c47] at H
        have c47b0 : (t575 == 0) = true := beq_iff_eq.mpr c47
        have c47b1 : (t575 != 0) = false := bne_eq_false_iff_eq.mpr c47
        clear c47
        replace H := Option.bind_eq_some_iff.mp H
        obtain ⟨t590, A480, H⟩ := H
        replace H : (some t590) = some r := H
        have A48 := Aside0.mk A480
        clear A480
        obtain rfl := Option.some.inj H
        go_wp2_with (first | ((with_reducible refine gate_callee (f := 17) rfl ?_); refine goesL_ (some 85) rfl rfl Tryz.func17 (by kernel_rfl) rfl #[.slice Ao15 t561.length co15, .slice none 0 0] rfl (by (try simp only [List.map_toArray, List.map_cons, List.map_nil]); first | done | rfl | (simp only [List.length_drop, List.length_take]; rfl)) ?_; (refine (tacticianref02_List.calls kj29 _ _ t561 _ _ ([] : List (List (S61))) t585 _ ?side1 ?side2 ?side3 ?side4 A42.out).mono ?_); (case side1 => repeat (first | exact (Kd.N_reads' HO_7.out).2.2 | (with_reducible refine Kd.C_alloc ?_ _) | (with_reducible refine Kd.C_drewN ?_ _) | (with_reducible refine Kd.C_drew ?_))); (case side2 => exact (Kd.N_reads' HO_7.out).2.1); (case side3 => exact Kd.C_nil _ _); (case side4 => exact Nat.le_refl _); rintro e w49 ⟨rfl, hb⟩; refine ⟨_, rfl, ?_⟩; have n0_ := Aside0.mk (Kd.N_below (by (with_reducible repeat (first | apply Kd.N_alloc | apply Kd.N_drewN | apply Kd.N_drew)); exact HO_7.out) hb); have n1_ := Aside0.mk (Kd.N_below (by (with_reducible repeat (first | apply Kd.N_alloc | apply Kd.N_drewN | apply Kd.N_drew)); exact HO_14.out) hb); have n2_ := Aside0.mk (below_step (by repeat (first | (with_reducible first | exact HB.out | apply yA | apply yN | apply yD) | exact HB.out)) hb); clear HO_7; clear HO_14; clear HB; have HO_7 := n0_; have HO_14 := n1_; have HB := n2_; clear n0_ n1_ n2_; (try clear hb); (try clear hb2); (try clear hk); (try clear hi)) | ((with_reducible refine gate_callee (f := 46) rfl ?_); refine goesL_ (some 101) rfl rfl Tryz.func46 (by kernel_rfl) rfl #[.slice Ao15 t561.length co15] rfl (by (try simp only [List.map_toArray, List.map_cons, List.map_nil]); first | done | rfl | (simp only [List.length_drop, List.length_take]; rfl)) ?_; (with_reducible refine (tacticianref02_Distinct.calls kj29 _ _ t561 t586 _ ?side1 ?side2 A44.out).mono ?_); (case side1 => repeat (first | exact (Kd.N_reads' HO_7.out).2.2 | (with_reducible refine Kd.C_alloc ?_ _) | (with_reducible refine Kd.C_drewN ?_ _) | (with_reducible refine Kd.C_drew ?_))); (case side2 => exact (Kd.N_reads' HO_7.out).2.1); rintro e w50 ⟨v587, rfl, ho0, hb⟩; refine ⟨_, rfl, ?_⟩; have n0_ := Aside0.mk (Kd.N_elder' (by (with_reducible repeat (first | apply Kd.N_alloc | apply Kd.N_drewN | apply Kd.N_drew)); exact HO_7.out) (Kd.N_base ho0) hb); have n1_ := Aside0.mk (Kd.N_elder' (by (with_reducible repeat (first | apply Kd.N_alloc | apply Kd.N_drewN | apply Kd.N_drew)); exact HO_14.out) (Kd.N_base ho0) hb); have n2_ := Aside0.mk (Kd.N_lower (Kd.N_mono (ok' := fun k_ => some k_ ≠ (.slice Ao15 t561.length co15 : Value).ownBlock ∧ some k_ ≠ (v576 : Value).ownBlock) ho0 (fun k_ hk_ => ⟨(Kd.fresh' (Kd.N_lt (by (with_reducible repeat (first | apply Kd.N_alloc | apply Kd.N_drewN | apply Kd.N_drew)); exact HO_7.out)) k_ hk_), (Kd.fresh' (Kd.N_lt (by (with_reducible repeat (first | apply Kd.N_alloc | apply Kd.N_drewN | apply Kd.N_drew)); exact HO_14.out)) k_ hk_)⟩)) (below_size (by repeat (first | (with_reducible first | exact HB.out | apply yA | apply yN | apply yD) | exact HB.out)))); have n3_ := Aside0.mk (below_step (by repeat (first | (with_reducible first | exact HB.out | apply yA | apply yN | apply yD) | exact HB.out)) hb); clear HO_7; clear HO_14; clear HB; have HO_7 := n0_; have HO_14 := n1_; have HO588 := n2_; have HB := n3_; clear n0_ n1_ n2_ n3_; (try clear hb); (try clear hb2); (try clear hk); (try clear hi); (try clear ho0); obtain ⟨Ao51, co51, eo51⟩ := Kd.N_slice HO_14.out; subst eo51; obtain ⟨Ao52, co52, eo52⟩ := Kd.N_slice HO588.out; subst eo52) | ((with_reducible refine gate_callee (f := 19) rfl ?_); refine goesL_ (some 102) rfl rfl Tryz.func19 (by kernel_rfl) rfl #[.slice Ao51 t574.length co51, .slice Ao52 t586.length co52] rfl (by (try simp only [List.map_toArray, List.map_cons, List.map_nil]); first | done | rfl | (simp only [List.length_drop, List.length_take]; rfl)) ?_; (with_reducible refine (tacticianref02_Equal.calls kj29 _ _ t574 _ _ t586 true _ ?side1 ?side2 ?side3 ?side4 A45.out).mono ?_); (case side1 => repeat (first | exact (Kd.N_reads' HO_14.out).2.2 | (with_reducible refine Kd.C_alloc ?_ _) | (with_reducible refine Kd.C_drewN ?_ _) | (with_reducible refine Kd.C_drew ?_))); (case side2 => exact (Kd.N_reads' HO_14.out).2.1); (case side3 => repeat (first | exact (Kd.N_reads' HO588.out).2.2 | (with_reducible refine Kd.C_alloc ?_ _) | (with_reducible refine Kd.C_drewN ?_ _) | (with_reducible refine Kd.C_drew ?_))); (case side4 => exact (Kd.N_reads' HO588.out).2.1); rintro e w53 ⟨rfl, hb⟩; refine ⟨_, rfl, ?_⟩; have n0_ := Aside0.mk (Kd.N_below (by (with_reducible repeat (first | apply Kd.N_alloc | apply Kd.N_drewN | apply Kd.N_drew)); exact HO_7.out) hb); have n1_ := Aside0.mk (Kd.N_below (by (with_reducible repeat (first | apply Kd.N_alloc | apply Kd.N_drewN | apply Kd.N_drew)); exact HO_14.out) hb); have n2_ := Aside0.mk (Kd.N_below (by (with_reducible repeat (first | apply Kd.N_alloc | apply Kd.N_drewN | apply Kd.N_drew)); exact HO588.out) hb); have n3_ := Aside0.mk (below_step (by repeat (first | (with_reducible first | exact HB.out | apply yA | apply yN | apply yD) | exact HB.out)) hb); clear HO_7; clear HO_14; clear HO588; clear HB; have HO_7 := n0_; have HO_14 := n1_; have HO588 := n2_; have HB := n3_; clear n0_ n1_ n2_ n3_; (try clear hb); (try clear hb2); (try clear hk); (try clear hi)) | (go_at_call 18; (with_reducible refine (tacticianlaw02_awake.calls  t590 _ ?side1 A48.out).mono ?_); (case side1 => exact Laid.below HLD.out (by repeat (first | (with_reducible first | exact HB.out | apply yA | apply yN | apply yD) | exact HB.out))); rintro e w54 ⟨rfl, hb⟩; have n0_ := Aside0.mk (Kd.N_below (by (with_reducible repeat (first | apply Kd.N_alloc | apply Kd.N_drewN | apply Kd.N_drew)); exact HO_7.out) hb); have n1_ := Aside0.mk (Kd.N_below (by (with_reducible repeat (first | apply Kd.N_alloc | apply Kd.N_drewN | apply Kd.N_drew)); exact HO_14.out) hb); have n2_ := Aside0.mk (Kd.N_below (by (with_reducible repeat (first | apply Kd.N_alloc | apply Kd.N_drewN | apply Kd.N_drew)); exact HO588.out) hb); have n3_ := Aside0.mk (below_step (by repeat (first | (with_reducible first | exact HB.out | apply yA | apply yN | apply yD) | exact HB.out)) hb); clear HO_7; clear HO_14; clear HO588; clear HB; have HO_7 := n0_; have HO_14 := n1_; have HO588 := n2_; have HB := n3_; clear n0_ n1_ n2_ n3_; (try clear hb); (try clear hb2); (try clear hk); (try clear hi)))
        go_ret
        exact ⟨by first | rfl | (simp [errW_none, errW_some] <;> rfl) | (simp [*, errW_none, errW_some] <;> rfl), by repeat (first | (with_reducible first | exact HB.out | apply yA | apply yN | apply yD) | exact HB.out)⟩
       ·rw [if_neg c47] at H
        have c47b0 : (t575 == 0) = false := beq_eq_false_iff_ne.mpr c47
        have c47b1 : (t575 != 0) = true := bne_iff_ne.mpr c47
        exact absurd ((Option.some.inj H).trans hr_.out) (by decide)
      ·replace c46 := Bool.eq_false_iff.mpr c46
       subst c46
       have H1 : (some false) = some r := by rw [if_neg (show ¬ (false = true) by decide)] at H; exact H
       clear H
       have H := H1
       clear H1
       exact absurd ((Option.some.inj H).trans hr_.out) (by decide)
     ·rw [if_neg c43] at H
      have c43b0 : (t585 == 0) = false := beq_eq_false_iff_ne.mpr c43
      have c43b1 : (t585 != 0) = true := bne_iff_ne.mpr c43
      by_cases c55 : (t574.length : Int) = 0
      ·rw [if_pos c55] at H
       have c55b0 : ((t574.length : Int) == 0) = true := beq_iff_eq.mpr c55
       have c55b1 : ((t574.length : Int) != 0) = false := bne_eq_false_iff_eq.mpr c55
       clear c55
       by_cases c56 : t575 = t585
       ·rw [if_pos c56] at H
        have c56b0 : (t575 == t585) = true := beq_iff_eq.mpr c56
        have c56b1 : (t575 != t585) = false := bne_eq_false_iff_eq.mpr c56
        clear c56
        replace H := Option.bind_eq_some_iff.mp H
        obtain ⟨t591, A570, H⟩ := H
        replace H : (some t591) = some r := H
        have A57 := Aside0.mk A570
        clear A570
        obtain rfl := Option.some.inj H
        go_wp2_with (first | ((with_reducible refine gate_callee (f := 17) rfl ?_); refine goesL_ (some 85) rfl rfl Tryz.func17 (by kernel_rfl) rfl #[.slice Ao15 t561.length co15, .slice none 0 0] rfl (by (try simp only [List.map_toArray, List.map_cons, List.map_nil]); first | done | rfl | (simp only [List.length_drop, List.length_take]; rfl)) ?_; (refine (tacticianref02_List.calls kj29 _ _ t561 _ _ ([] : List (List (S61))) t585 _ ?side1 ?side2 ?side3 ?side4 A42.out).mono ?_); (case side1 => repeat (first | exact (Kd.N_reads' HO_7.out).2.2 | (with_reducible refine Kd.C_alloc ?_ _) | (with_reducible refine Kd.C_drewN ?_ _) | (with_reducible refine Kd.C_drew ?_))); (case side2 => exact (Kd.N_reads' HO_7.out).2.1); (case side3 => exact Kd.C_nil _ _); (case side4 => exact Nat.le_refl _); rintro e w58 ⟨rfl, hb⟩; refine ⟨_, rfl, ?_⟩; have n0_ := Aside0.mk (Kd.N_below (by (with_reducible repeat (first | apply Kd.N_alloc | apply Kd.N_drewN | apply Kd.N_drew)); exact HO_7.out) hb); have n1_ := Aside0.mk (Kd.N_below (by (with_reducible repeat (first | apply Kd.N_alloc | apply Kd.N_drewN | apply Kd.N_drew)); exact HO_14.out) hb); have n2_ := Aside0.mk (below_step (by repeat (first | (with_reducible first | exact HB.out | apply yA | apply yN | apply yD) | exact HB.out)) hb); clear HO_7; clear HO_14; clear HB; have HO_7 := n0_; have HO_14 := n1_; have HB := n2_; clear n0_ n1_ n2_; (try clear hb); (try clear hb2); (try clear hk); (try clear hi); obtain ⟨Ao59, co59, eo59⟩ := Kd.N_slice HO_14.out; subst eo59) | (go_at_call 18; (with_reducible refine (tacticianlaw02_awake.calls  t591 _ ?side1 A57.out).mono ?_); (case side1 => exact Laid.below HLD.out (by repeat (first | (with_reducible first | exact HB.out | apply yA | apply yN | apply yD) | exact HB.out))); rintro e w60 ⟨rfl, hb⟩; have n0_ := Aside0.mk (Kd.N_below (by (with_reducible repeat (first | apply Kd.N_alloc | apply Kd.N_drewN | apply Kd.N_drew)); exact HO_7.out) hb); have n1_ := Aside0.mk (Kd.N_below (by (with_reducible repeat (first | apply Kd.N_alloc | apply Kd.N_drewN | apply Kd.N_drew)); exact HO_14.out) hb); have n2_ := Aside0.mk (below_step (by repeat (first | (with_reducible first | exact HB.out | apply yA | apply yN | apply yD) | exact HB.out)) hb); clear HO_7; clear HO_14; clear HB; have HO_7 := n0_; have HO_14 := n1_; have HB := n2_; clear n0_ n1_ n2_; (try clear hb); (try clear hb2); (try clear hk); (try clear hi)))
        go_ret
        exact ⟨by first | rfl | (simp [errW_none, errW_some] <;> rfl) | (simp [*, errW_none, errW_some] <;> rfl), by repeat (first | (with_reducible first | exact HB.out | apply yA | apply yN | apply yD) | exact HB.out)⟩
       ·rw [if_neg c56] at H
        have c56b0 : (t575 == t585) = false := beq_eq_false_iff_ne.mpr c56
        have c56b1 : (t575 != t585) = true := bne_iff_ne.mpr c56
        exact absurd ((Option.some.inj H).trans hr_.out) (by decide)
      ·rw [if_neg c55] at H
       have c55b0 : ((t574.length : Int) == 0) = false := beq_eq_false_iff_ne.mpr c55
       have c55b1 : ((t574.length : Int) != 0) = true := bne_iff_ne.mpr c55
       have c55b2 : ¬ (t574 = []) := fun h_ => c55 (by rw [h_]; rfl)
       exact absurd ((Option.some.inj H).trans hr_.out) (by decide)
end Go.Proofs.YtmhobbdedmjmnaaGreatDoor.Q
end
section
/- What the law RowsBags computes answers as it says, in plain words: no program in sight. -/
namespace Go.Proofs.YtmhobbdedmjmnaaGreatDoor
open Go.RowKit Go.Proofs.YtmhobbdedmjmnaaGreatDoor.Q Go.Proofs.YtmhobbdedmjmnaaGreatDoorW.PrintWords Go.Proofs.YtmhobbdedmjmnaaGreatDoorW.PrintLast Go.Proofs.YtmhobbdedmjmnaaGreatDoorW.PrintMore
theorem bags_j1 (a : List (List V)) (ha : RowsOk 100000 a) (k : Nat) (hk : 420000 ≤ k) : ∃ p, rows_Distinct.f a = some p ∧ tacticianlaw02_RowsBags.j1 (k + 1) a p.1 p.2 = some true := by
  unfold rows_Distinct.f
  by_cases hs : smallE [a] = 0
  · rw [if_pos hs, if_pos (okR_of ha (by omega))]
    refine ⟨_, rfl, ?_⟩
    rw [tacticianlaw02_RowsBags.j1, refList a [] ha (rowsOk_nil _) k (by omega), Option.bind_some, smallE_nil, if_pos hs, refDistinctR a ha k (by omega), Option.bind_some, refEqual _ (oneR_ok ha) k (by omega), Option.bind_some, if_pos rfl, if_pos rfl]
    rfl
  · rw [if_neg hs]
    refine ⟨_, rfl, ?_⟩
    rw [tacticianlaw02_RowsBags.j1, refList a [] ha (rowsOk_nil _) k (by omega), Option.bind_some, smallE_nil, if_neg hs]
    simp [tacticianlaw02_awake.f]
theorem bags_j0 (a : List (List V)) (x : List V) (ha : RowsOk 100000 a) (hx : RowOk x) (k : Nat) (hk : 420001 ≤ k) : ∃ t p, rows_Times.f a x = some t ∧ rows_Distinct.f a = some p ∧ tacticianlaw02_RowsBags.j0 (k + 1) a x t.1 t.2 p.1 p.2 = some true := by
  obtain ⟨k, rfl⟩ : ∃ m, k = m + 1 := ⟨k - 1, by omega⟩
  obtain ⟨p, hp, hj⟩ := bags_j1 a ha k (by omega)
  have hx1 : RowsOk 100000 [x] := ⟨by simp, fun r hr => by rw [List.mem_singleton.1 hr]; exact hx⟩
  refine ⟨_, p, timesF a x, hp, ?_⟩
  rw [tacticianlaw02_RowsBags.j0, refList a [x] ha hx1 (k + 1) (by omega), Option.bind_some]
  by_cases hs : smallE [a, [x]] = 0
  · rw [if_pos hs, if_pos hs, refTimes a x ha hx (k + 1) (by omega), Option.bind_some, if_pos rfl, if_pos rfl]
    exact hj
  · rw [if_neg hs, if_neg hs, if_pos rfl, if_pos rfl]
    exact hj
theorem pure_RowsBags : ∀ (l0 : (List (List V))) (l1 : (List (List V))) (l2 : (List V)), argRows l0 → argRows l1 → argRow l2 → ∃ k, Q.tacticianlaw02_RowsBags.f k (l0) (l1) (l2) = some true := by
  intro l0 l1 l2 h0 h1 h2
  refine ⟨500000, ?_⟩
  unfold tacticianlaw02_RowsBags.f
  have ha : RowsOk 100000 (cutRows 30 l0) := (argRows_ok h0).grow (by omega)
  have hb : RowsOk 100000 (cutRows 30 l1) := (argRows_ok h1).grow (by omega)
  have hx := argRow_ok h2
  rw [show (30 : Int) = ((30 : Nat) : Int) from rfl, cutRows_at l0 30 500000 (by omega) (by omega), cutRows_at l1 30 500000 (by omega) (by omega), cutRow_at l2 500000 (by omega)]
  simp only [Option.bind_some]
  generalize cutRows 30 l0 = a at ha ⊢
  generalize cutRows 30 l1 = b at hb ⊢
  generalize cutRow l2 = x at hx ⊢
  obtain ⟨t, p, ht, hp, hj⟩ := bags_j0 a x ha hx 499999 (by omega)
  rw [sameF a b ha hb, ht, hp, refList a b ha hb 500000 (by omega)]
  simp only [Option.bind_some]
  by_cases hs : smallE [a, b] = 0
  · rw [if_pos hs, if_pos hs, refSame a b ha hb 500000 (by omega), Option.bind_some, if_neg (by simp), if_pos rfl]
    exact hj
  · rw [if_neg hs, if_neg hs, if_neg (show ¬ (false, smallE [a, b]).1 = true from Bool.false_ne_true), if_pos rfl]
    exact hj
end Go.Proofs.YtmhobbdedmjmnaaGreatDoor
end
section
/- From data that are read (the form's 'trod') to what the printed contracts ask: numbers, bools, strings, slices, structs; with the reach's bounds. -/
namespace Go.Proofs.YtmhobbdedmjmnaaGreatDoor
open Go.RowKit Go.Proofs.YtmhobbdedmjmnaaGreatDoor.Q Go.Proofs.YtmhobbdedmjmnaaGreatDoorW.PrintWords Go.Proofs.YtmhobbdedmjmnaaGreatDoorW.PrintLast Go.Proofs.YtmhobbdedmjmnaaGreatDoorW.PrintMore
variable {α : Type}
/-- Data of type t that can be read are such a value; within the reach it is 'ok'. -/
def Opens (P : Program) (t : TypeId) (d : Kd α) (ok : α → Prop) : Prop :=
  ∀ (H : Type) (enc : TypeId × Value → H) (W : World) (base : Nat) (spare : Nat → Bool) (held : Bool) (fuel : Nat) (cs : List Value) (x : DataW H × List MemPlace),
    DataW.trod enc P W base spare held fuel t cs = some x → ∃ a, d.K W a cs ∧ (((DataW.weights P t x.1).all (· ≤ reachBytes)) = true → ok a)
theorem Opens.int {P : Program} {t : TypeId} {k : IntKind} (ht : P.underlying t = some (.int k)) : Opens P t (Kd.int k) (fun a => (Lit.int k a).wf = true) := by
  intro H enc W base spare held fuel cs x h
  obtain ⟨a, e0, rfl, wa⟩ := DataW.trod_int ht h
  exact ⟨a, e0, fun _ => wa⟩
theorem Opens.bool {P : Program} {t : TypeId} (ht : P.underlying t = some .bool) : Opens P t Kd.bool (fun _ => True) := by
  intro H enc W base spare held fuel cs x h
  obtain ⟨a, e0, rfl⟩ := DataW.trod_bool ht h
  exact ⟨a, e0, fun _ => trivial⟩
theorem Opens.string {P : Program} {t : TypeId} (ht : P.underlying t = some .string) : Opens P t Kd.string (fun a => a.size ≤ 140737488351232) := by
  intro H enc W base spare held fuel cs x h
  obtain ⟨a, e0, rfl, ws⟩ := DataW.trod_string ht h
  refine ⟨a, e0, fun hw => ?_⟩
  simp only [DataW.weights, List.all_cons, List.all_nil, Bool.and_true, decide_eq_true_eq] at hw
  have e : a.data.toList.length = a.size := Array.length_toList
  unfold reachBytes at hw
  omega
theorem mem_weightsAll {H : Type} (P : Program) (e : TypeId) : ∀ (l : List (DataW H)) (d : DataW H), d ∈ l → ∀ n, n ∈ d.weights P e → n ∈ DataW.weightsAll P e l := by
  intro l
  induction l with
  | nil => intro d hd; cases hd
  | cons z r ih =>
    intro d hd n hn
    rw [DataW.weightsAll, List.mem_append]
    rcases List.mem_cons.1 hd with rfl | hd
    · exact .inl hn
    · exact .inr (ih d hd n hn)
/-- choice along a list's places -/
theorem choose_list {β : Type} (n : Nat) (p : Nat → β → Prop) (h : ∀ i, i < n → ∃ b, p i b) : ∃ l : List β, l.length = n ∧ ∀ i b, l[i]? = some b → p i b := by
  induction n with
  | zero => exact ⟨[], rfl, fun i b hb => by simp at hb⟩
  | succ n ih =>
    obtain ⟨l, hl, hp⟩ := ih (fun i hi => h i (by omega))
    obtain ⟨b, hb⟩ := h n (by omega)
    refine ⟨l ++ [b], by simp [hl], fun i b' hb' => ?_⟩
    by_cases hi : i < l.length
    · rw [List.getElem?_append_left hi] at hb'; exact hp i b' hb'
    · rw [List.getElem?_append_right (by omega)] at hb'
      have hi2 : i = n := by
        rcases Nat.lt_or_ge (i - l.length) 1 with h1 | h1
        · omega
        · rw [List.getElem?_eq_none (by simpa using h1)] at hb'; cases hb'
      subst hi2
      rw [show i - l.length = 0 by omega] at hb'
      simp at hb'
      rw [← hb']; exact hb
theorem Opens.slice {P : Program} {t e : TypeId} {d : Kd α} {ok : α → Prop} {n : Nat} (ht : P.underlying t = some (.slice e)) (hc : P.cellsOf e = d.sz) (hb : P.bytesOf e = n) (hd : Opens P e d ok) :
    Opens P t (Kd.slice e d) (fun l => l.length * n ≤ 140737488351232 ∧ l.length ≤ maxLen ∧ ∀ a ∈ l, ok a) := by
  intro H enc W base spare held fuel cs x h
  rcases Go.Deep.open_slice ht h with ⟨rfl, rfl⟩ | ⟨a, len, cap, m, n', D, Pl, rfl, _, hl, hm, hmm, rfl, hx⟩
  · exact ⟨[], ⟨none, 0, rfl, Nat.le_refl _, rfl, by simp, fun h => absurd h (Nat.lt_irrefl _)⟩, fun _ => ⟨by simp, by simp, fun a ha => by cases ha⟩⟩
  · have hlm : len ≤ m := by rw [hmm]; split <;> omega
    obtain ⟨l, hll, hp⟩ := choose_list len (fun i z => ∃ cs', W.cells? base (a.add (i * P.cellsOf e)) (P.cellsOf e) = some cs' ∧ d.K W z cs' ∧ (((DataW.weights P e (D i)).all (· ≤ reachBytes)) = true → ok z)) (fun i hi => by
      obtain ⟨cs', h1, h2⟩ := hx i (by omega)
      obtain ⟨z, hz, hok⟩ := hd H enc W base spare held n' cs' _ h2
      exact ⟨z, cs', h1, hz, hok⟩)
    subst hll
    unfold maxLen at hm
    refine ⟨l, ⟨some a, cap, rfl, hl, rfl, by omega, fun _ => ⟨a, rfl, fun j p hj => ?_⟩⟩, fun hw => ?_⟩
    · obtain ⟨cs', h1, h2, _⟩ := hp j p hj
      rw [hc] at h1
      obtain ⟨_, hlen, hcell⟩ := World.cells?_some h1
      refine ⟨cs', hlen, h2, fun i u hu => ?_⟩
      have hi : i < d.sz := by rw [← hlen]; exact (List.getElem?_eq_some_iff.1 hu).1
      have := (hcell i hi).trans hu
      rw [Addr.add_add] at this
      exact this
    · rw [DataW.weights, ht] at hw
      simp only [List.all_cons, List.all_append, Bool.and_eq_true, decide_eq_true_eq] at hw
      obtain ⟨h1, h2, _⟩ := hw
      rw [hb] at h1
      refine ⟨?_, by unfold maxLen; omega, fun z hz => ?_⟩
      · have h3 : l.length * n ≤ (((List.range l.length).map D).length + ((List.range (m - l.length)).map fun j => D (l.length + j)).length) * n := Nat.mul_le_mul_right _ (by simp)
        unfold reachBytes at h1
        omega
      · obtain ⟨i, hi, rfl⟩ := List.getElem_of_mem hz
        obtain ⟨_, _, _, hok⟩ := hp i _ (List.getElem?_eq_getElem hi)
        refine hok ?_
        rw [List.all_eq_true] at h2 ⊢
        intro q hq
        exact h2 q (mem_weightsAll P e _ (D i) (List.mem_map.2 ⟨i, List.mem_range.2 hi, rfl⟩) q hq)
set_option maxRecDepth 100000 in
/-- a value: three cells -/
theorem Opens.value : Opens Tryz.prog 61 k61 (fun v => (Lit.int .i64 v.f0).wf = true ∧ (Lit.int .i64 v.f1).wf = true ∧ v.f2.size ≤ 140737488351232) := by
  intro H enc W base spare held fuel cs x h
  obtain ⟨y0, y1, y2, n, rfl, hl, h0, h1, h2⟩ := Go.Deep.trod_struct3 Tryz.underlying61 h
  have hc : Tryz.prog.cellsOf 61 = 3 := by kernel_rfl
  have c0 : Tryz.prog.cellsOf 59 = 1 := by kernel_rfl
  have c1 : Tryz.prog.cellsOf 2 = 1 := by kernel_rfl
  have c2 : Tryz.prog.cellsOf 9 = 1 := by kernel_rfl
  rw [hc] at hl
  simp only [c0, c1, c2] at h0 h1 h2
  obtain ⟨a, e0, o0⟩ := Opens.int Tryz.underlying59 H enc W base spare held _ _ _ h0
  obtain ⟨b, e1, o1⟩ := Opens.int Tryz.underlying2 H enc W base spare held _ _ _ h1
  obtain ⟨c, e2, o2⟩ := Opens.string Tryz.underlying9 H enc W base spare held _ _ _ h2
  match cs, hl with
  | [z0, z1, z2], _ =>
    have q0 : [z0] = [Value.int .i64 a] := e0
    have q1 : [z1] = [Value.int .i64 b] := e1
    have q2 : [z2] = [Value.string c] := e2
    simp only [List.cons.injEq, and_true] at q0 q1 q2
    subst q0 q1 q2
    refine ⟨⟨a, b, c⟩, k61_mk W ⟨a, b, c⟩, fun hw => ?_⟩
    rw [DataW.weights, Tryz.underlying61] at hw
    simp only [List.map_cons, List.map_nil, DataW.weightsEach, List.all_append, List.append_nil, Bool.and_eq_true] at hw
    exact ⟨o0 hw.1, o1 hw.2.1, o2 hw.2.2⟩
end Go.Proofs.YtmhobbdedmjmnaaGreatDoor
end
section
/- From data that are read to what the printed contracts ask: keys and columns (two cells each). -/
namespace Go.Proofs.YtmhobbdedmjmnaaGreatDoor
open Go.RowKit Go.Proofs.YtmhobbdedmjmnaaGreatDoor.Q Go.Proofs.YtmhobbdedmjmnaaGreatDoorW.PrintWords Go.Proofs.YtmhobbdedmjmnaaGreatDoorW.PrintLast Go.Proofs.YtmhobbdedmjmnaaGreatDoorW.PrintMore
set_option maxRecDepth 100000 in
/-- a key: two cells -/
theorem Opens.key : Opens Tryz.prog 36 k36 (fun v => (Lit.int .i64 v.f0).wf = true) := by
  intro H enc W base spare held fuel cs x h
  obtain ⟨y0, y1, n, rfl, hl, h0, h1⟩ := Go.ChangeShapes.trod_struct2 Tryz.underlying36 h
  have hc : Tryz.prog.cellsOf 36 = 2 := by kernel_rfl
  have c0 : Tryz.prog.cellsOf 3 = 1 := by kernel_rfl
  have c1 : Tryz.prog.cellsOf 4 = 1 := by kernel_rfl
  rw [hc] at hl
  simp only [c0, c1] at h0 h1
  obtain ⟨a, e0, o0⟩ := Opens.int Tryz.underlying3 H enc W base spare held _ _ _ h0
  obtain ⟨b, e1, o1⟩ := Opens.bool Tryz.underlying4 H enc W base spare held _ _ _ h1
  match cs, hl with
  | [z0, z1], _ =>
    have q0 : [z0] = [Value.int .i64 a] := e0
    have q1 : [z1] = [Value.bool b] := e1
    simp only [List.cons.injEq, and_true] at q0 q1
    subst q0 q1
    refine ⟨⟨a, b⟩, k36_mk W ⟨a, b⟩, fun hw => ?_⟩
    rw [DataW.weights, Tryz.underlying36] at hw
    simp only [List.map_cons, List.map_nil, DataW.weightsEach, List.all_append, List.append_nil, Bool.and_eq_true] at hw
    exact o0 hw.1
set_option maxRecDepth 100000 in
/-- a column: two cells -/
theorem Opens.col : Opens Tryz.prog 88 k88 (fun v => (Lit.int .i64 v.f0).wf = true) := by
  intro H enc W base spare held fuel cs x h
  obtain ⟨y0, y1, n, rfl, hl, h0, h1⟩ := Go.ChangeShapes.trod_struct2 Tryz.underlying88 h
  have hc : Tryz.prog.cellsOf 88 = 2 := by kernel_rfl
  have c0 : Tryz.prog.cellsOf 59 = 1 := by kernel_rfl
  have c1 : Tryz.prog.cellsOf 4 = 1 := by kernel_rfl
  rw [hc] at hl
  simp only [c0, c1] at h0 h1
  obtain ⟨a, e0, o0⟩ := Opens.int Tryz.underlying59 H enc W base spare held _ _ _ h0
  obtain ⟨b, e1, o1⟩ := Opens.bool Tryz.underlying4 H enc W base spare held _ _ _ h1
  match cs, hl with
  | [z0, z1], _ =>
    have q0 : [z0] = [Value.int .i64 a] := e0
    have q1 : [z1] = [Value.bool b] := e1
    simp only [List.cons.injEq, and_true] at q0 q1
    subst q0 q1
    refine ⟨⟨a, b⟩, k88_mk W ⟨a, b⟩, fun hw => ?_⟩
    rw [DataW.weights, Tryz.underlying88] at hw
    simp only [List.map_cons, List.map_nil, DataW.weightsEach, List.all_append, List.append_nil, Bool.and_eq_true] at hw
    exact o0 hw.1
end Go.Proofs.YtmhobbdedmjmnaaGreatDoor
end
section
/- Proved: what the rows of this seat share (the witness's world, the listed variables, the wrap), under the conditions of the given statements alone (written by a program of ours for this seat). -/
namespace Go.Proofs.YtmhobbdedmjmnaaGreatDoor
open Go.RowKit
variable {H : Type} {enc : TypeId × Value → H}
/-- The plain wrap, with the listed variables and the world's shape kept. -/
theorem returnsInHanded_both {a : Assume} {C : Checked} {os : Os} {f : FuncId} {fn : Func} {s : ChangeSpec} {conds : List PathCond} {apart fresh handsOn again : Bool} {X : World → Array Value → Prop}
    (hX : ∀ (w w' : World) (args : Array Value), w.heap = w'.heap → X w args → X w' args)
    (own : ownKnob C.prog.godebug = none) (started : os.Started) (noInit : C.prog.inits.idxOf? f = none) (hfn : C.prog.funcs[f]? = some fn)
    (witness : ∃ (w : World) (tape : Tape) (i : Input), w.os = os ∧ (w.forCall tape i).Shaped C.prog ∧ i.vars = [] ∧ Input.okWide C.prog (w.forCall tape i) .any w.heap.size f i ∧
      ((s.pre enc C.prog fn conds apart (w.forCall tape i).memory i.args ∧ X (w.forCall tape i).memory i.args) ∧ sizedMet enc C.prog fn (OpenSpec.ofChange s) apart (w.forCall tape i).memory i.args) ∧ a.holds C.prog (lone (Frame.enter C.prog f i.args .normal) [] (w.forCall tape i)))
    (contract : ∀ (W : World) (base : Nat) (args : Array Value) (ds gs : List (DataW H)) (before : List MemPlace),
      (∀ (j : Nat) t v, fn.params[j]? = some t → args[j]? = some v → Value.okWide C.prog W .any base t v) →
      DataW.Whole enc C.prog fn.params.toList s.vars apart W args.toList ds gs before →
      conds.all (PathCond.test C.prog ⟨fn.params.toList, ds, s.plain.varTypes C.prog, gs⟩) = true →
      (DataW.weightsEach C.prog (fn.params.toList ++ s.plain.varTypes C.prog) (ds ++ gs)).all (· ≤ reachBytes) = true → X W args → W.ShapedOpen C.prog →
      a.holds C.prog (lone (Frame.enter C.prog f args .normal) [] W) →
      Calls C.prog f args W fun e W' => ∃ v, e = .returned v ∧ s.post enc C.prog fn apart fresh handsOn again W args v W') :
    ReturnsInHanded a C os f .any (fun w args => (s.pre enc C.prog fn conds apart w args ∧ X w args) ∧ sizedMet enc C.prog fn (OpenSpec.ofChange s) apart w args) (s.post enc C.prog fn apart fresh handsOn again) := by
  refine returnsInHanded_of_calls own started noInit witness ?_
  intro w tape i _ hsh _ hok hpre hholds
  obtain ⟨_, _, _, fn', hfn', _, _, _, _, hval⟩ := hok
  have e : fn' = fn := Option.some.inj (hfn'.symm.trans hfn)
  subst e
  obtain ⟨⟨⟨ds, gs, before, hw, hc⟩, hx⟩, hz⟩ := hpre
  have hw' := DataW.Whole.of_heap (w' := w.forCall tape i) (by rfl) hw
  refine (contract (w.forCall tape i) w.heap.size i.args ds gs before hval hw' hc (hz.weights hw) (hX _ _ _ (by rfl) hx) hsh hholds).mono fun e W' ⟨v, he, hp⟩ => ?_
  subst he
  exact ChangeSpec.post_blind hp
theorem own : ownKnob Tryz.prog.godebug = none := by kernel_rfl
theorem laidOut : laidOutB Tryz.prog = true := by kernel_rfl
/-- the world that the program's own start leaves, the pinned table laid -/
noncomputable def laidWorld (os : Os) : World :=
  let w0 := World.doorLaid Tryz.prog 600 os
  { w0 with heap := w0.heap.modify 2 fun
      | .cells _ t frozen => .cells (Lib.firstTab.map fun z => Value.int .u8 z).toArray t frozen
      | o => o }
theorem laid_plain {W : World} (h : laidMetH Tryz.prog Rows.rowsTogetherRow.laid W) : laidMet Tryz.prog Rows.rowsTogetherRow.laid W := by
  have e : (Rows.rowsTogetherRow.laid.filter fun x => x.2.handleName?.isSome) = [] := by kernel_rfl
  unfold laidMetH at h
  rw [e] at h
  exact h
theorem laid_met (os : Os) (args : Array Value) : laidMetH Tryz.prog Rows.rowsTogetherRow.laid ((laidWorld os).forCall (fun _ _ => 0) ⟨#[], args, []⟩).memory := by
  have e : (Rows.rowsTogetherRow.laid.filter fun x => x.2.handleName?.isSome) = [] := by kernel_rfl
  unfold laidMetH
  rw [e]
  exact laidMet_of_run' 8 (by kernel_rfl) (by kernel_rfl)
theorem laid_of {W : World} (h0 : laidMetH Tryz.prog Rows.rowsTogetherRow.laid W) (hsh : W.ShapedOpen Tryz.prog) : Laid W := by
  have h := laid_plain h0
  have hp : Lib.TabIs Tryz.prog W "internal/strconv.uint64pow10" .u64 Lib.pow10Tab := by
    have z := h.tail.tail
    have e : Rows.laid_internal_strconv_uint64pow10 (H := Unit) = Lib.tabData .u64 Lib.pow10Tab := by kernel_rfl
    rw [e] at z
    exact Lib.tabIs_of_head (g := 0) (t := 198) (e := 153) (n := 20) (by kernel_rfl) (by kernel_rfl) (by kernel_rfl) (by kernel_rfl) (by kernel_rfl) (by kernel_rfl) z
  obtain ⟨m, hm⟩ := cell_of_shapedOpen_int (g := 1) (t := 3) (k := .i64) (zero := #[.int .i64 0]) hsh (of_decide_eq_true (by kernel_rfl)) (by kernel_rfl) rfl (by kernel_rfl) (by kernel_rfl) (by kernel_rfl)
  exact ⟨hp, ⟨m, hm⟩⟩
end Go.Proofs.YtmhobbdedmjmnaaGreatDoor
end
section
/- Proved: the card of the statement RowsBags, under the conditions of the given statements alone (written by a program of ours for this seat). -/
namespace Go.Proofs.YtmhobbdedmjmnaaGreatDoor.rowsBags
open Go.ChangeShapes Go.WideShapes Go.ChangeAt Go.RowKit
open Go.ChangeMaps (open_string shut_string)
open Go.Proofs.YtmhobbdedmjmnaaGreatDoor.Q Go.Proofs.YtmhobbdedmjmnaaGreatDoorW.PrintWords
set_option linter.unusedVariables false
set_option maxRecDepth 100000 in
set_option maxHeartbeats 1000000 in
theorem lifted (os : Os) (started : os.Started) (H : Type) (enc : TypeId × Value → H) :
    ReturnsInHanded {} Tryz.checked os 9 .any (fun w args => (Rows.rowsBagsSpec.pre enc Tryz.prog Tryz.f9 [] false w args ∧ laidMetH Tryz.prog Rows.rowsBagsRow.laid w) ∧ sizedMet enc Tryz.prog Tryz.f9 (OpenSpec.ofChange Rows.rowsBagsSpec) false w args) (Rows.rowsBagsSpec.post enc Tryz.prog Tryz.f9 false true false false) := by
  refine returnsInHanded_both (C := Tryz.checked) (X := fun w _ => laidMetH Tryz.prog Rows.rowsBagsRow.laid w) (fun _ _ _ hh h => h.of_heap hh) own started (by kernel_rfl) Tryz.func9
    (ChangeSpec.witness_shaped (enc := enc) (C := Tryz.checked) (os := os) (X := fun w _ => laidMetH Tryz.prog Rows.rowsBagsRow.laid w) false (laidWorld os) #[.slice none 0 0, .slice none 0 0, .slice none 0 0] 8 rfl (World.shaped_of_RefB (by kernel_rfl) (by kernel_rfl)) (by kernel_rfl) (by kernel_rfl) (by kernel_rfl) (laid_met os _)) ?_
  intro W base args ds gs before hval0 hW _ hsz0 hL hsh _
  have hsz : (DataW.weightsEach Tryz.prog (Tryz.f9.params.toList ++ Rows.rowsBagsSpec.plain.varTypes Tryz.prog) (ds ++ gs)).all (· ≤ reachBytes) = true := hsz0
  have hW' := hW
  obtain ⟨p, q, hA0, hV, rfl, hfz, hnd⟩ := hW
  have hA : DataW.TrodAll enc Tryz.prog W 0 (fun _ => true) true Tryz.f9.params.toList args.toList ds p := hA0
  rw [Tryz.params9] at hA hsz
  obtain ⟨v0, vs0, d0, ds0, p0, q0, hargs, rfl, rfl, h0, r0⟩ := trodAll_cons hA
  obtain ⟨v1, vs1, d1, ds1, p1, q1, rfl, rfl, rfl, h1, r1⟩ := trodAll_cons r0
  obtain ⟨v2, vs2, d2, ds2, p2, q2, rfl, rfl, rfl, h2, r2⟩ := trodAll_cons r1
  obtain ⟨rfl, rfl, rfl⟩ := trodAll_nil r2
  obtain rfl : args = #[v0, v1, v2] := by cases args; simp_all
  obtain ⟨rfl, rfl⟩ := trodVars_none hV
  have hval : ∀ (j : Nat) t v, Tryz.f9.params[j]? = some t → (#[v0, v1, v2] : Array Value)[j]? = some v → Value.okWide Tryz.prog W .any base t v := hval0
  rw [Tryz.params9] at hval
  have k0 := h0
  have lt0 : ∀ x ∈ p0, x.block < W.heap.size := by obtain ⟨m, hm⟩ := k0; exact DataW.trod_lt m _ _ _ hm
  obtain ⟨aa0, len0, cap0, rfl⟩ := okWide_slice Tryz.underlying22 (hval 0 22 v0 rfl rfl)
  obtain ⟨fuel0, hf0⟩ := h0
  obtain ⟨l0, ⟨A0, c0, ev0, hc0, hr0⟩, o0⟩ := (Opens.slice Tryz.underlying22 (by kernel_rfl) (n := 24) (by kernel_rfl) (Opens.slice Tryz.underlying40 (by kernel_rfl) (n := 32) (by kernel_rfl) Opens.value)) H enc W 0 _ _ fuel0 _ _ hf0
  obtain ⟨rfl, rfl, rfl⟩ : aa0 = A0 ∧ len0 = l0.length ∧ cap0 = c0 := by simpa [Value.cells] using ev0
  have y0 := o0 (List.all_eq_true.2 fun z hz => (List.all_eq_true.1 hsz) z (DataW.weights_mem_each (j := 0) (t := 22) rfl rfl z hz))
  have k1 := h1
  have lt1 : ∀ x ∈ p1, x.block < W.heap.size := by obtain ⟨m, hm⟩ := k1; exact DataW.trod_lt m _ _ _ hm
  obtain ⟨aa1, len1, cap1, rfl⟩ := okWide_slice Tryz.underlying22 (hval 1 22 v1 rfl rfl)
  obtain ⟨fuel1, hf1⟩ := h1
  obtain ⟨l1, ⟨A1, c1, ev1, hc1, hr1⟩, o1⟩ := (Opens.slice Tryz.underlying22 (by kernel_rfl) (n := 24) (by kernel_rfl) (Opens.slice Tryz.underlying40 (by kernel_rfl) (n := 32) (by kernel_rfl) Opens.value)) H enc W 0 _ _ fuel1 _ _ hf1
  obtain ⟨rfl, rfl, rfl⟩ : aa1 = A1 ∧ len1 = l1.length ∧ cap1 = c1 := by simpa [Value.cells] using ev1
  have y1 := o1 (List.all_eq_true.2 fun z hz => (List.all_eq_true.1 hsz) z (DataW.weights_mem_each (j := 1) (t := 22) rfl rfl z hz))
  have k2 := h2
  have lt2 : ∀ x ∈ p2, x.block < W.heap.size := by obtain ⟨m, hm⟩ := k2; exact DataW.trod_lt m _ _ _ hm
  obtain ⟨aa2, len2, cap2, rfl⟩ := okWide_slice Tryz.underlying40 (hval 2 40 v2 rfl rfl)
  obtain ⟨fuel2, hf2⟩ := h2
  obtain ⟨l2, ⟨A2, c2, ev2, hc2, hr2⟩, o2⟩ := (Opens.slice Tryz.underlying40 (by kernel_rfl) (n := 32) (by kernel_rfl) Opens.value) H enc W 0 _ _ fuel2 _ _ hf2
  obtain ⟨rfl, rfl, rfl⟩ : aa2 = A2 ∧ len2 = l2.length ∧ cap2 = c2 := by simpa [Value.cells] using ev2
  have y2 := o2 (List.all_eq_true.2 fun z hz => (List.all_eq_true.1 hsz) z (DataW.weights_mem_each (j := 2) (t := 40) rfl rfl z hz))
  obtain ⟨k, hk⟩ := pure_RowsBags l0 l1 l2 y0 y1 y2
  refine (Q.tacticianlaw02_RowsBags.calls k _ _ l0 _ _ l1 _ _ l2 true W hr0 hc0 hr1 hc1 hr2 hc2 (laid_of hL hsh) ⟨rfl⟩ hk).mono fun e W' ⟨he, bel⟩ => ?_
  subst he
  exact ⟨_, rfl, _, _, _, [], _, [], hW', trodAll_mk1 (shut_bool Tryz.underlying4 _), (trodAll_cons_mk (Below.trod laidOut (by kernel_rfl) (of_decide_eq_true (by kernel_rfl)) k0 bel lt0) (trodAll_cons_mk (Below.trod laidOut (by kernel_rfl) (of_decide_eq_true (by kernel_rfl)) k1 bel lt1) (trodAll_cons_mk (Below.trod laidOut (by kernel_rfl) (of_decide_eq_true (by kernel_rfl)) k2 bel lt2) trodAll_mk0))), rfl, bel.frame _, fun h => by cases h⟩
theorem over : Rows.rowsBagsRow.holds Tryz.pinned (OpenSpec.ofChange Rows.rowsBagsSpec) :=
  OpenClaim.holds_of_wide 9 Tryz.f9 rfl rfl rfl rfl rfl rfl rfl ⟨rfl, rfl, rfl, rfl, rfl⟩ rfl rfl rfl rfl rfl (by kernel_rfl) Tryz.func9 (by kernel_rfl)
    (of_decide_eq_true (by kernel_rfl)) (by unfold Func.isWrapper; first | (rw [if_pos (by decide +kernel)]; kernel_rfl) | (rw [if_neg (by decide +kernel)]; exact ⟨rfl, rfl⟩))
    (fun os started H enc _ => lifted os started H enc)
theorem card : Rows.RowsBagsCardSaid :=
  Claim7.holds_tied_plain_at .later [] [.data, .data, .data, .data, .pinned] true (true, "3fbdbdc6005f940d9b2637db3a20e2190d23d3aac91fe9574c23040e4f9c7ab4") true
    over (fun _ h => by cases h) (by kernel_rfl) (fun _ h => by cases h) rowsBags_row_tie rfl ⟨rfl, rfl⟩ (by kernel_rfl) rfl
    (fun f fn hf hfn => by
      obtain rfl : f = 9 := Option.some.inj ((show Tryz.prog.funcNamed "tactician/tacticianlaw02.RowsBags" = some 9 by kernel_rfl).symm.trans hf) |>.symm
      obtain rfl : fn = Tryz.f9 := (Option.some.inj (Tryz.func9.symm.trans hfn)).symm
      refine ⟨by kernel_rfl, fun j t ht => ?_⟩
      rw [Tryz.params9] at ht
      have hm := Array.mem_of_getElem? ht
      simp only [List.mem_toArray, List.mem_cons, List.mem_nil_iff, or_false] at hm
      rcases hm with rfl | rfl | rfl
      · exact (show Tryz.prog.wantsStandIn 22 = false by kernel_rfl)
      · exact (show Tryz.prog.wantsStandIn 22 = false by kernel_rfl)
      · exact (show Tryz.prog.wantsStandIn 40 = false by kernel_rfl))
    (by kernel_rfl)
end Go.Proofs.YtmhobbdedmjmnaaGreatDoor.rowsBags
namespace Go.Proofs.YtmhobbdedmjmnaaGreatDoor
/-- The card, under a short name, for the claim. -/
theorem rowsBags_card : Rows.RowsBagsCardSaid := rowsBags.card
end Go.Proofs.YtmhobbdedmjmnaaGreatDoor
end
