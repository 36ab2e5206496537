/- Each function reached is shown to return what the plain function beside it computes, wherever that is defined (written by a program of ours for this seat). -/
import Derived.Test.YtinhpbmoiamepaaDoorQ0
import Derived.Test.YtinhpbmoiamepaaDoorQ5
import Derived.Test.YtinhpbmoiamepaaDoorQ7
import Derived.Test.YtinhpbmoiamepaaDoorQ9
import Derived.Test.YtinhpbmoiamepaaDoorQ12
import Derived.Test.YtinhpbmoiamepaaDoorQ16
import Derived.Test.YtinhpbmoiamepaaDoorQ19
namespace Go.Proofs.YtinhpbmoiamepaaDoor.Q
open Go.RowKit Go.Proofs.YtinhpbmoiamepaaDoorW.PrintWords Go.Proofs.YtinhpbmoiamepaaDoorW.PrintLast Go.Proofs.YtinhpbmoiamepaaDoorW.PrintMore
attribute [local go_sem] max2_int min2_int max_two min_two max_three min_three max_four min_four   -- for this text's walks alone
set_option linter.unusedVariables false
set_option linter.unusedSimpArgs false

/-! ### tacticianlaw01_ValueBack: function 5 -/
mutual
def tacticianlaw01_ValueBack.j0 : Nat → ByteArray → Bool → Int → Int → ByteArray → Int → Int → ByteArray → Option (Bool)
  | 0, _, _, _, _, _, _, _, _ => none
  | k + 1, x1, x27, x365000, x365001, x365002, x369000, x369001, x369002 => if x27 = true then (tacticianlaw01_ValueBack.j1 k x1 x365000 x365001 x365002) else (tacticianlaw01_ValueBack.j1 k x1 x369000 x369001 x369002)
def tacticianlaw01_ValueBack.j1 : Nat → ByteArray → Int → Int → ByteArray → Option (Bool)
  | 0, _, _, _, _ => none
  | k + 1, x1, x369000, x369001, x369002 => (value_String.f x369000 x369001 x369002).bind fun bt377 => ((value_Parse.f bt377.1).bind fun bt379 => (if bt377.2 = 0 then (if bt379.2.2.2 = 0 then (if bt379.1 = x369000 then (if bt379.2.1 = x369001 then (if bt379.2.2.1.toList = x369002.toList then (tacticianlaw01_ValueBack.j2 k x1 false) else (tacticianlaw01_ValueBack.j2 k x1 true)) else (tacticianlaw01_ValueBack.j2 k x1 true)) else (tacticianlaw01_ValueBack.j2 k x1 true)) else (tacticianlaw01_ValueBack.j2 k x1 true)) else (tacticianlaw01_ValueBack.j2 k x1 true)))
def tacticianlaw01_ValueBack.j2 : Nat → ByteArray → Bool → Option (Bool)
  | 0, _, _ => none
  | k + 1, x1, x49 => if x49 = true then (some false) else (if 0 ≤ (mn (x1.size : Int) 450) then (if (mn (x1.size : Int) 450) ≤ (x1.size : Int) then ((value_Parse.f (x1.extract 0 ((mn (x1.size : Int) 450) : Int).toNat)).bind fun bt384 => (if bt384.2.2.2 = 0 then ((value_String.f bt384.1 bt384.2.1 bt384.2.2.1).bind fun bt389 => (if bt389.2 = 0 then (if bt389.1.toList = (x1.extract 0 ((mn (x1.size : Int) 450) : Int).toNat).toList then ((value_Check.f bt384.1 bt384.2.1 bt384.2.2.1).bind fun t391 => (if t391 = 0 then ((tacticianlaw01_awake.f).bind fun t392 => (some t392)) else (some false))) else (some false)) else (some false))) else (if bt384.1 = 0 then (if bt384.2.1 = 0 then (if bt384.2.2.1.toList = ([] : List UInt8) then ((tacticianlaw01_awake.f).bind fun t393 => (some t393)) else (some false)) else (some false)) else (some false)))) else (none)) else (none))
end
def tacticianlaw01_ValueBack.f (k : Nat) (a0_0 : Int) (a0_1 : Int) (a0_2 : ByteArray) (a1 : ByteArray) : Option (Bool) := (tacticianref01_Tame.f k a0_0 a0_1 a0_2).bind fun bt365 => (if a0_0 = 3 then ((tacticianlaw01_Cut.f k (([(⟨a0_0, a0_1, a0_2⟩ : S25)] : List (S25))) 1).bind fun t372 => (if 0 < (t372.length : Int) then ((tacticianref01_Right_s.f ((rd_T25 t372 0).f0) ((rd_T25 t372 0).f1) ((rd_T25 t372 0).f2)).bind fun t376 => (tacticianlaw01_ValueBack.j0 k a1 t376 a0_0 a0_1 a0_2 bt365.1 bt365.2.1 bt365.2.2)) else (none))) else (tacticianlaw01_ValueBack.j0 k a1 false a0_0 a0_1 a0_2 bt365.1 bt365.2.1 bt365.2.2))
theorem tacticianlaw01_ValueBack.mono_l : ∀ k, (∀ y0 y1 y2 y3 y4 y5 y6 y7, LeO (tacticianlaw01_ValueBack.j0 k y0 y1 y2 y3 y4 y5 y6 y7) (tacticianlaw01_ValueBack.j0 (k + 1) y0 y1 y2 y3 y4 y5 y6 y7)) ∧ (∀ y0 y1 y2 y3, LeO (tacticianlaw01_ValueBack.j1 k y0 y1 y2 y3) (tacticianlaw01_ValueBack.j1 (k + 1) y0 y1 y2 y3)) ∧ (∀ y0 y1, LeO (tacticianlaw01_ValueBack.j2 k y0 y1) (tacticianlaw01_ValueBack.j2 (k + 1) y0 y1))
  | 0 => ⟨fun _ _ _ _ _ _ _ _ r h => by simp [tacticianlaw01_ValueBack.j0] at h, fun _ _ _ _ r h => by simp [tacticianlaw01_ValueBack.j1] at h, fun _ _ r h => by simp [tacticianlaw01_ValueBack.j2] at h⟩
  | k + 1 => by
    obtain ⟨ih0, ih1, ih2⟩ := tacticianlaw01_ValueBack.mono_l k
    refine ⟨?_, ?_, ?_⟩
    · intro y0 y1 y2 y3 y4 y5 y6 y7
      unfold tacticianlaw01_ValueBack.j0
      repeat' first
      | (with_reducible exact ih0 _ _ _ _ _ _ _ _)
      | (with_reducible exact ih1 _ _ _ _)
      | (with_reducible exact ih2 _ _)
      | (with_reducible exact tacticianlaw01_Cut.mono _ _ _)
      | (with_reducible exact tacticianref01_Tame.mono _ _ _ _)
      | (with_reducible exact LeO.refl _)
      | (with_reducible exact LeO.none _)
      | (with_reducible refine LeO.ite ?_ ?_)
      | (with_reducible refine LeO.bind ?_ (fun _ => ?_))
      | exact ih0 _ _ _ _ _ _ _ _
      | exact ih1 _ _ _ _
      | exact ih2 _ _
      | exact tacticianlaw01_Cut.mono _ _ _
      | exact tacticianref01_Tame.mono _ _ _ _
      | exact LeO.none _
      | refine LeO.ite ?_ ?_
      | refine LeO.bind ?_ (fun _ => ?_)
    · intro y0 y1 y2 y3
      unfold tacticianlaw01_ValueBack.j1
      repeat' first
      | (with_reducible exact ih0 _ _ _ _ _ _ _ _)
      | (with_reducible exact ih1 _ _ _ _)
      | (with_reducible exact ih2 _ _)
      | (with_reducible exact tacticianlaw01_Cut.mono _ _ _)
      | (with_reducible exact tacticianref01_Tame.mono _ _ _ _)
      | (with_reducible exact LeO.refl _)
      | (with_reducible exact LeO.none _)
      | (with_reducible refine LeO.ite ?_ ?_)
      | (with_reducible refine LeO.bind ?_ (fun _ => ?_))
      | exact ih0 _ _ _ _ _ _ _ _
      | exact ih1 _ _ _ _
      | exact ih2 _ _
      | exact tacticianlaw01_Cut.mono _ _ _
      | exact tacticianref01_Tame.mono _ _ _ _
      | exact LeO.none _
      | refine LeO.ite ?_ ?_
      | refine LeO.bind ?_ (fun _ => ?_)
    · intro y0 y1
      unfold tacticianlaw01_ValueBack.j2
      repeat' first
      | (with_reducible exact ih0 _ _ _ _ _ _ _ _)
      | (with_reducible exact ih1 _ _ _ _)
      | (with_reducible exact ih2 _ _)
      | (with_reducible exact tacticianlaw01_Cut.mono _ _ _)
      | (with_reducible exact tacticianref01_Tame.mono _ _ _ _)
      | (with_reducible exact LeO.refl _)
      | (with_reducible exact LeO.none _)
      | (with_reducible refine LeO.ite ?_ ?_)
      | (with_reducible refine LeO.bind ?_ (fun _ => ?_))
      | exact ih0 _ _ _ _ _ _ _ _
      | exact ih1 _ _ _ _
      | exact ih2 _ _
      | exact tacticianlaw01_Cut.mono _ _ _
      | exact tacticianref01_Tame.mono _ _ _ _
      | exact LeO.none _
      | refine LeO.ite ?_ ?_
      | refine LeO.bind ?_ (fun _ => ?_)
theorem tacticianlaw01_ValueBack.mono : ∀ a0 a1 a2 a3 k, LeO (tacticianlaw01_ValueBack.f k a0 a1 a2 a3) (tacticianlaw01_ValueBack.f (k + 1) a0 a1 a2 a3) := by
  intro a0 a1 a2 a3 k
  obtain ⟨ih0, ih1, ih2⟩ := tacticianlaw01_ValueBack.mono_l k
  unfold tacticianlaw01_ValueBack.f
  repeat' first
      | (with_reducible exact ih0 _ _ _ _ _ _ _ _)
      | (with_reducible exact ih1 _ _ _ _)
      | (with_reducible exact ih2 _ _)
      | (with_reducible exact tacticianlaw01_Cut.mono _ _ _)
      | (with_reducible exact tacticianref01_Tame.mono _ _ _ _)
      | (with_reducible exact LeO.refl _)
      | (with_reducible exact LeO.none _)
      | (with_reducible refine LeO.ite ?_ ?_)
      | (with_reducible refine LeO.bind ?_ (fun _ => ?_))
      | exact ih0 _ _ _ _ _ _ _ _
      | exact ih1 _ _ _ _
      | exact ih2 _ _
      | exact tacticianlaw01_Cut.mono _ _ _
      | exact tacticianref01_Tame.mono _ _ _ _
      | exact LeO.none _
      | refine LeO.ite ?_ ?_
      | refine LeO.bind ?_ (fun _ => ?_)
set_option maxHeartbeats 8000000 in
set_option maxRecDepth 100000 in
theorem tacticianlaw01_ValueBack.calls (k : Nat) (a0_0 : Int) (a0_1 : Int) (a0_2 : ByteArray) (a1 : ByteArray) (r : Bool) (w : World) (hL_ : Laid w) (hr_ : Aside0 (r = true)) (h : tacticianlaw01_ValueBack.f k a0_0 a0_1 a0_2 a1 = some r) :
    Calls Tryd.prog 5 #[.agg #[.int .i64 a0_0, .int .i64 a0_1, .string a0_2], .string a1] w fun e w' => e = .returned (.bool r) ∧ Below w.heap.size w w' := by
  have hu25 := Tryd.underlying25
  have HLD := Aside0.mk hL_
  clear hL_
  have HB := Aside0.mk (Below.refl w.heap.size w)
  have H : ((tacticianref01_Tame.f k a0_0 a0_1 a0_2).bind fun bt365 => (if a0_0 = 3 then ((tacticianlaw01_Cut.f k (([(⟨a0_0, a0_1, a0_2⟩ : S25)] : List (S25))) 1).bind fun t372 => (if 0 < (t372.length : Int) then ((tacticianref01_Right_s.f ((rd_T25 t372 0).f0) ((rd_T25 t372 0).f1) ((rd_T25 t372 0).f2)).bind fun t376 => (tacticianlaw01_ValueBack.j0 k a1 t376 a0_0 a0_1 a0_2 bt365.1 bt365.2.1 bt365.2.2)) else (none))) else (tacticianlaw01_ValueBack.j0 k a1 false a0_0 a0_1 a0_2 bt365.1 bt365.2.1 bt365.2.2))) = some r := h
  clear h
  replace H := Option.bind_eq_some_iff.mp H
  obtain ⟨⟨t365, t366, t367⟩, A30, H⟩ := H
  replace H : (if a0_0 = 3 then ((tacticianlaw01_Cut.f k (([(⟨a0_0, a0_1, a0_2⟩ : S25)] : List (S25))) 1).bind fun t372 => (if 0 < (t372.length : Int) then ((tacticianref01_Right_s.f ((rd_T25 t372 0).f0) ((rd_T25 t372 0).f1) ((rd_T25 t372 0).f2)).bind fun t376 => (tacticianlaw01_ValueBack.j0 k a1 t376 a0_0 a0_1 a0_2 t365 t366 t367)) else (none))) else (tacticianlaw01_ValueBack.j0 k a1 false a0_0 a0_1 a0_2 t365 t366 t367)) = some r := H
  have A3 := Aside0.mk A30
  clear A30
  have HC4 := Aside0.mk H
  clear H
  go_enter Tryd.func5, Tryd.ntmps5
  go_upto_region 2 with (first | ((with_reducible refine gate_dst (N := 2) rfl ?_); (try (refine gate_guard (by rfl) ?_; dsimp only)); refine box_event ?hg (N := 2) ?hd (cs := #[.int .i64 a0_0, .int .i64 a0_1, .string a0_2]) (t := 25) ?hr ?_; (case hd => rfl); (case hg => rfl); (case hr => first | (go_simp; done) | (go_simp; rfl)); intro gb364 hg w5 hbox hb; have n0_ := Aside0.mk (below_step (by repeat (first | (with_reducible first | exact HB.out | apply yA | apply yN | apply yD) | exact HB.out)) hb); have n1_ := Aside0.mk (hbox); have n2_ := Aside0.mk ((by rw [hg]; exact (below_size (by repeat (first | (with_reducible first | exact HB.out | apply yA | apply yN | apply yD) | exact HB.out))) : w.heap.size ≤ gb364)); have n3_ := Aside0.mk ((by rw [hg]; exact (below_size (by repeat (first | (with_reducible first | exact HB.out | apply yA | apply yN | apply yD) | exact HB.out))) : w.heap.size ≤ gb364)); clear HB; have HB := n0_; have BK364 := n1_; have GW364 := n2_; have GE364 := n3_; clear n0_ n1_ n2_ n3_; clear hb hbox hg; have hcz6_0 : w5.cell? ⟨gb364, 0, none⟩ = some (.int .i64 a0_0) := (blk_cell BK364.out 0).trans rfl; have hcz6_1 : w5.cell? ⟨gb364, 1, none⟩ = some (.int .i64 a0_1) := (blk_cell BK364.out 1).trans rfl; have hcz6_2 : w5.cell? ⟨gb364, 2, none⟩ = some (.string a0_2) := (blk_cell BK364.out 2).trans rfl; have hfz6_0 := blk_frozen BK364.out 0; have hfz6_1 := blk_frozen BK364.out 1; have hfz6_2 := blk_frozen BK364.out 2) | ((with_reducible refine gate_callee (f := 17) rfl ?_); refine goesL_ (some 16) rfl rfl Tryd.func17 (by kernel_rfl) rfl #[.agg #[.int .i64 a0_0, .int .i64 a0_1, .string a0_2]] rfl (by (try simp only [List.map_toArray, List.map_cons, List.map_nil]); first | done | rfl | (simp only [List.length_drop, List.length_take]; rfl)) ?_; (with_reducible refine (tacticianref01_Tame.calls k a0_0 a0_1 a0_2 t365 t366 t367 _ A3.out).mono ?_); rintro e w7 ⟨rfl, hb⟩; refine ⟨_, rfl, ?_⟩; have n0_ := Aside0.mk (blk_below (g := gb364) (o := .cells #[.int .i64 a0_0, .int .i64 a0_1, .string a0_2] 25 (0, 0)) (by (with_reducible repeat (first | refine zN ?_ _ | refine zD ?_ | refine zA ?_ _)); exact BK364.out) hb); have n1_ := Aside0.mk (below_step (by repeat (first | (with_reducible first | exact HB.out | apply yA | apply yN | apply yD | refine below_set ?_ GE364.out) | exact HB.out)) hb); clear BK364; clear HB; have BK364 := n0_; have HB := n1_; clear n0_ n1_; (try clear hb); (try clear hb2); (try clear hk); (try clear hi)) | ((with_reducible refine gate_dst (N := 5) rfl ?_); (try (refine gate_guard (by rfl) ?_; dsimp only)); refine box_event ?hg (N := 5) ?hd (cs := #[.int .i64 0, .int .i64 0, .string (⟨#[]⟩ : ByteArray)]) (t := 25) ?hr ?_; (case hd => rfl); (case hg => rfl); (case hr => first | (go_simp; done) | (go_simp; rfl)); intro gb368 hg w8 hbox hb; have n0_ := Aside0.mk (blk_below (g := gb364) (o := .cells #[.int .i64 a0_0, .int .i64 a0_1, .string a0_2] 25 (0, 0)) (by (with_reducible repeat (first | refine zN ?_ _ | refine zD ?_ | refine zA ?_ _)); exact BK364.out) hb); have n1_ := Aside0.mk (below_step (by repeat (first | (with_reducible first | exact HB.out | apply yA | apply yN | apply yD | refine below_set ?_ GE364.out) | exact HB.out)) hb); have n2_ := Aside0.mk (hbox); have n3_ := Aside0.mk ((by rw [hg]; exact (below_size (by repeat (first | (with_reducible first | exact HB.out | apply yA | apply yN | apply yD | refine below_set ?_ GE364.out) | exact HB.out))) : w.heap.size ≤ gb368)); have n4_ := Aside0.mk ((by rw [hg]; exact (below_size (by repeat (first | (with_reducible first | exact HB.out | apply yA | apply yN | apply yD | refine below_set ?_ GE364.out) | exact HB.out))) : w.heap.size ≤ gb368)); have n5_ := Aside0.mk ((by rw [hg]; exact Nat.ne_of_lt (blk_lt (g := gb364) (o := .cells #[.int .i64 a0_0, .int .i64 a0_1, .string a0_2] 25 (0, 0)) (by (with_reducible repeat (first | refine zN ?_ _ | refine zD ?_ | refine zA ?_ _)); exact BK364.out)) : gb364 ≠ gb368)); have n6_ := Aside0.mk ((by rw [hg]; exact Nat.ne_of_gt (blk_lt (g := gb364) (o := .cells #[.int .i64 a0_0, .int .i64 a0_1, .string a0_2] 25 (0, 0)) (by (with_reducible repeat (first | refine zN ?_ _ | refine zD ?_ | refine zA ?_ _)); exact BK364.out)) : gb368 ≠ gb364)); clear BK364; clear HB; have BK364 := n0_; have HB := n1_; have BK368 := n2_; have GW368 := n3_; have GE368 := n4_; have NB364_368 := n5_; have NB368_364 := n6_; clear n0_ n1_ n2_ n3_ n4_ n5_ n6_; clear hb hbox hg; have hnb9 := NB368_364.out; have hnc9 := NB364_368.out; have hcz10_0 : w8.cell? ⟨gb368, 0, none⟩ = some (.int .i64 0) := (blk_cell BK368.out 0).trans rfl; have hcz10_1 : w8.cell? ⟨gb368, 1, none⟩ = some (.int .i64 0) := (blk_cell BK368.out 1).trans rfl; have hcz10_2 : w8.cell? ⟨gb368, 2, none⟩ = some (.string (⟨#[]⟩ : ByteArray)) := (blk_cell BK368.out 2).trans rfl; have hfz10_0 := blk_frozen BK368.out 0; have hfz10_1 := blk_frozen BK368.out 1; have hfz10_2 := blk_frozen BK368.out 2))
  (try simp only [Act.put, List.setIfInBounds_toArray, List.set_cons_zero, List.set_cons_succ])
  go_cut [27] (fun v27 wc => ∃ (kq : Nat) (x27_3 : Bool), v27 = .bool x27_3 ∧ Aside0 (tacticianlaw01_ValueBack.j0 kq a1 x27_3 a0_0 a0_1 a0_2 t365 t366 t367 = some r) ∧ Aside0 (kq ≤ k) ∧ Aside0 (wc.heap[gb364]? = some (.cells #[.int .i64 a0_0, .int .i64 a0_1, .string a0_2] 25 (0, 0))) ∧ Aside0 (wc.heap[gb368]? = some (.cells #[.int .i64 t365, .int .i64 t366, .string t367] 25 (0, 0))) ∧ Aside0 (Below w.heap.size w wc))
  case first =>
    have H := HC4.out
    clear HC4
    by_cases c11 : a0_0 = 3
    · rw [if_pos c11] at H
      have c11b0 : (a0_0 == 3) = true := beq_iff_eq.mpr c11
      have c11b1 : (a0_0 != 3) = false := bne_eq_false_iff_eq.mpr c11
      clear c11
      (first | rw [c11b0] | (simp only [i64_w, i32_w]; rw [c11b0]) | skip)
      obtain ⟨y369, hy369⟩ : ∃ y_ : List (S25), y_ = (([(⟨a0_0, a0_1, a0_2⟩ : S25)] : List (S25))) := ⟨_, rfl⟩
      replace H : ((tacticianlaw01_Cut.f k y369 1).bind fun t372 => (if 0 < (t372.length : Int) then ((tacticianref01_Right_s.f ((rd_T25 t372 0).f0) ((rd_T25 t372 0).f1) ((rd_T25 t372 0).f2)).bind fun t376 => (tacticianlaw01_ValueBack.j0 k a1 t376 a0_0 a0_1 a0_2 t365 t366 t367)) else (none))) = some r := by first | (rw [hy369]; with_reducible exact H) | (have H2_ := (Option.bind_some _ _).symm.trans H; rw [hy369]; with_reducible exact H2_) | (have H2_ := (Option.bind_some _ _).symm.trans H; with_reducible exact H2_) | with_reducible exact H | (rw [hy369]; exact H) | exact H
      have Ny369 := Aside0.mk hy369
      clear hy369
      replace H := Option.bind_eq_some_iff.mp H
      obtain ⟨t372, A120, H⟩ := H
      replace H : (if 0 < (t372.length : Int) then ((tacticianref01_Right_s.f ((rd_T25 t372 0).f0) ((rd_T25 t372 0).f1) ((rd_T25 t372 0).f2)).bind fun t376 => (tacticianlaw01_ValueBack.j0 k a1 t376 a0_0 a0_1 a0_2 t365 t366 t367)) else (none)) = some r := H
      have A12 := Aside0.mk A120
      clear A120
      by_cases c13 : 0 < (t372.length : Int)
      · rw [if_pos c13] at H
        have c13b0 : decide (0 < (t372.length : Int)) = true := decide_eq_true c13
        have c13b1 : decide (0 < t372.length) = true := decide_eq_true (by omega)
        clear c13
        replace H := Option.bind_eq_some_iff.mp H
        obtain ⟨t376, A140, H⟩ := H
        replace H : (tacticianlaw01_ValueBack.j0 k a1 t376 a0_0 a0_1 a0_2 t365 t366 t367) = some r := H
        have A14 := Aside0.mk A140
        clear A140
        have H' := Aside0.mk H
        clear H
        have hnb15 := NB364_368.out
        have hnc15 := NB368_364.out
        have hcz16_0 : w8.cell? ⟨gb364, 0, none⟩ = some (.int .i64 a0_0) := (blk_cell BK364.out 0).trans rfl
        have hcz16_1 : w8.cell? ⟨gb364, 1, none⟩ = some (.int .i64 a0_1) := (blk_cell BK364.out 1).trans rfl
        have hcz16_2 : w8.cell? ⟨gb364, 2, none⟩ = some (.string a0_2) := (blk_cell BK364.out 2).trans rfl
        have hfz16_0 := blk_frozen BK364.out 0
        have hfz16_1 := blk_frozen BK364.out 1
        have hfz16_2 := blk_frozen BK364.out 2
        go_wp2_with (first | ((with_reducible refine gate_dst (N := 22) rfl ?_); (try (refine gate_guard (by rfl) ?_; dsimp only)); refine Kd.R_lit k25 _ 25 ?hg (N := 22) ?hd (xs := ([(⟨a0_0, a0_1, a0_2⟩ : S25)] : List (S25))) (inner := [.int .i64 a0_0, .int .i64 a0_1, .string a0_2]) (ok := fun _ => True) (okp := fun _ => True) ?hr ?hp (fun _ hk => hk) trivial (Below.refl _ _) (Nat.le_refl _) (by simp) ?_; (case hd => rfl); (case hg => rfl); (case hr => first | (go_simp; done) | (go_simp; rfl)); (case hp => exact (Reps.c3 (show Kd.M k25 _ _ _ (⟨a0_0, a0_1, a0_2⟩ : S25) [.int .i64 a0_0, .int .i64 a0_1, .string a0_2] from (k25_mkM _ _ _ (⟨a0_0, a0_1, a0_2⟩ : S25) )) (Reps.none _ _))); intro v370 w17 ho18 hb hg_ hnew_; clear hg_ hnew_; (first | rw [← Ny369.out] at ho18 | (simp only [Int.reduceToNat] at ho18; rw [← Ny369.out] at ho18)); have n0_ := Aside0.mk (Kd.R_lower (Kd.R_newB (Kd.R_newB ho18 (g := gb364) (o := .cells #[.int .i64 a0_0, .int .i64 a0_1, .string a0_2] 25 (0, 0)) (by (with_reducible repeat (first | refine zN ?_ _ | refine zD ?_ | refine zA ?_ _)); refine blk_far ?_ NB364_368.out _; (with_reducible repeat (first | refine zN ?_ _ | refine zD ?_ | refine zA ?_ _)); refine blk_far ?_ NB364_368.out _; (with_reducible repeat (first | refine zN ?_ _ | refine zD ?_ | refine zA ?_ _)); refine blk_far ?_ NB364_368.out _; (with_reducible repeat (first | refine zN ?_ _ | refine zD ?_ | refine zA ?_ _)); exact BK364.out)) (g := gb368) (o := .cells #[.int .i64 t365, .int .i64 t366, .string t367] 25 (0, 0)) (by (with_reducible repeat (first | refine zN ?_ _ | refine zD ?_ | refine zA ?_ _)); refine blk_put (cs := #[.int .i64 t365, .int .i64 t366, .string (⟨#[]⟩ : ByteArray)]) ?_ 2 _ rfl; (with_reducible repeat (first | refine zN ?_ _ | refine zD ?_ | refine zA ?_ _)); refine blk_put (cs := #[.int .i64 t365, .int .i64 0, .string (⟨#[]⟩ : ByteArray)]) ?_ 1 _ rfl; (with_reducible repeat (first | refine zN ?_ _ | refine zD ?_ | refine zA ?_ _)); refine blk_put (cs := #[.int .i64 0, .int .i64 0, .string (⟨#[]⟩ : ByteArray)]) ?_ 0 _ rfl; (with_reducible repeat (first | refine zN ?_ _ | refine zD ?_ | refine zA ?_ _)); exact BK368.out)) (below_size (by repeat (first | (with_reducible first | exact HB.out | apply yA | apply yN | apply yD | refine below_set ?_ GE364.out | refine below_set ?_ GE368.out) | exact HB.out)))); have n1_ := Aside0.mk (blk_below (g := gb364) (o := .cells #[.int .i64 a0_0, .int .i64 a0_1, .string a0_2] 25 (0, 0)) (by (with_reducible repeat (first | refine zN ?_ _ | refine zD ?_ | refine zA ?_ _)); refine blk_far ?_ NB364_368.out _; (with_reducible repeat (first | refine zN ?_ _ | refine zD ?_ | refine zA ?_ _)); refine blk_far ?_ NB364_368.out _; (with_reducible repeat (first | refine zN ?_ _ | refine zD ?_ | refine zA ?_ _)); refine blk_far ?_ NB364_368.out _; (with_reducible repeat (first | refine zN ?_ _ | refine zD ?_ | refine zA ?_ _)); exact BK364.out) hb); have n2_ := Aside0.mk (blk_below (g := gb368) (o := .cells #[.int .i64 t365, .int .i64 t366, .string t367] 25 (0, 0)) (by (with_reducible repeat (first | refine zN ?_ _ | refine zD ?_ | refine zA ?_ _)); refine blk_put (cs := #[.int .i64 t365, .int .i64 t366, .string (⟨#[]⟩ : ByteArray)]) ?_ 2 _ rfl; (with_reducible repeat (first | refine zN ?_ _ | refine zD ?_ | refine zA ?_ _)); refine blk_put (cs := #[.int .i64 t365, .int .i64 0, .string (⟨#[]⟩ : ByteArray)]) ?_ 1 _ rfl; (with_reducible repeat (first | refine zN ?_ _ | refine zD ?_ | refine zA ?_ _)); refine blk_put (cs := #[.int .i64 0, .int .i64 0, .string (⟨#[]⟩ : ByteArray)]) ?_ 0 _ rfl; (with_reducible repeat (first | refine zN ?_ _ | refine zD ?_ | refine zA ?_ _)); exact BK368.out) hb); have n3_ := Aside0.mk (below_step (by repeat (first | (with_reducible first | exact HB.out | apply yA | apply yN | apply yD | refine below_set ?_ GE364.out | refine below_set ?_ GE368.out) | exact HB.out)) hb); clear BK364; clear BK368; clear HB; have HO371 := n0_; have BK364 := n1_; have BK368 := n2_; have HB := n3_; clear n0_ n1_ n2_ n3_; clear hb ho18; obtain ⟨Ao19, co19, eo19⟩ := Kd.R_slice HO371.out; subst eo19) | (go_at_call 10; (with_reducible refine (tacticianlaw01_Cut.calls k _ _ y369 1 t372 _ ?side1 ?side2 A12.out).mono ?_); (case side1 => repeat (first | exact (Kd.R_reads' HO371.out).2.2 | (with_reducible refine Kd.C_alloc ?_ _) | (with_reducible refine Kd.C_drewN ?_ _) | (with_reducible refine Kd.C_drew ?_))); (case side2 => exact (Kd.R_reads' HO371.out).2.1); rintro e w20 ⟨v373, rfl, ho0, hb⟩; have n0_ := Aside0.mk (Kd.R_elder' (by (with_reducible repeat (first | apply Kd.R_alloc | apply Kd.R_drewN | apply Kd.R_drew)); exact HO371.out) (Kd.R_base ho0) hb); have n1_ := Aside0.mk (Kd.R_lower (Kd.R_newB (Kd.R_newB (Kd.R_new' ho0 (Kd.R_lt (by (with_reducible repeat (first | apply Kd.R_alloc | apply Kd.R_drewN | apply Kd.R_drew)); exact HO371.out))) (g := gb364) (o := .cells #[.int .i64 a0_0, .int .i64 a0_1, .string a0_2] 25 (0, 0)) (by (with_reducible repeat (first | refine zN ?_ _ | refine zD ?_ | refine zA ?_ _)); exact BK364.out)) (g := gb368) (o := .cells #[.int .i64 t365, .int .i64 t366, .string t367] 25 (0, 0)) (by (with_reducible repeat (first | refine zN ?_ _ | refine zD ?_ | refine zA ?_ _)); exact BK368.out)) (below_size (by repeat (first | (with_reducible first | exact HB.out | apply yA | apply yN | apply yD | refine below_set ?_ GE364.out | refine below_set ?_ GE368.out) | exact HB.out)))); have n2_ := Aside0.mk (blk_below (g := gb364) (o := .cells #[.int .i64 a0_0, .int .i64 a0_1, .string a0_2] 25 (0, 0)) (by (with_reducible repeat (first | refine zN ?_ _ | refine zD ?_ | refine zA ?_ _)); exact BK364.out) hb); have n3_ := Aside0.mk (blk_below (g := gb368) (o := .cells #[.int .i64 t365, .int .i64 t366, .string t367] 25 (0, 0)) (by (with_reducible repeat (first | refine zN ?_ _ | refine zD ?_ | refine zA ?_ _)); exact BK368.out) hb); have n4_ := Aside0.mk (below_step (by repeat (first | (with_reducible first | exact HB.out | apply yA | apply yN | apply yD | refine below_set ?_ GE364.out | refine below_set ?_ GE368.out) | exact HB.out)) hb); clear HO371; clear BK364; clear BK368; clear HB; have HO371 := n0_; have HO374 := n1_; have BK364 := n2_; have BK368 := n3_; have HB := n4_; clear n0_ n1_ n2_ n3_ n4_; (try clear hb); (try clear hb2); (try clear hk); (try clear hi); (try clear ho0); obtain ⟨Ao21, co21, eo21⟩ := Kd.R_slice HO374.out; subst eo21; have p375 : 0 ≤ (0 : Int) := (by omega); have q375 : 0 < (t372.length : Int) := of_decide_eq_true (by first | (with_reducible assumption) | assumption); obtain ⟨ad375, e375, hx375_0, hx375_1, hx375_2⟩ := at_T25 (Kd.R_reads' HO374.out).2.2 0 p375 q375; cases e375; have qi375 : (0 < t372.length) = True := eq_true (by omega); (try rw [show ((0 : Int)).toNat = 0 from rfl] at hx375_0); (try rw [show 0 * 3 = 0 from rfl] at hx375_0); (try rw [Addr.add_zero'] at hx375_0); (try rw [show ((0 : Int)).toNat = 0 from rfl] at hx375_1); (try rw [show 0 * 3 = 0 from rfl] at hx375_1); (try rw [Addr.add_zero'] at hx375_1); (try rw [show ((0 : Int)).toNat = 0 from rfl] at hx375_2); (try rw [show 0 * 3 = 0 from rfl] at hx375_2); (try rw [Addr.add_zero'] at hx375_2); replace p375 := eq_true p375; replace q375 := eq_true q375) | (go_at_call 18; (with_reducible refine (tacticianref01_Right_s.calls ((rd_T25 t372 0).f0) ((rd_T25 t372 0).f1) ((rd_T25 t372 0).f2) t376 _ A14.out).mono ?_); rintro e w22 ⟨rfl, hb⟩; have n0_ := Aside0.mk (Kd.R_below (by (with_reducible repeat (first | apply Kd.R_alloc | apply Kd.R_drewN | apply Kd.R_drew)); exact HO371.out) hb); have n1_ := Aside0.mk (Kd.R_below (by (with_reducible repeat (first | apply Kd.R_alloc | apply Kd.R_drewN | apply Kd.R_drew)); exact HO374.out) hb); have n2_ := Aside0.mk (blk_below (g := gb364) (o := .cells #[.int .i64 a0_0, .int .i64 a0_1, .string a0_2] 25 (0, 0)) (by (with_reducible repeat (first | refine zN ?_ _ | refine zD ?_ | refine zA ?_ _)); exact BK364.out) hb); have n3_ := Aside0.mk (blk_below (g := gb368) (o := .cells #[.int .i64 t365, .int .i64 t366, .string t367] 25 (0, 0)) (by (with_reducible repeat (first | refine zN ?_ _ | refine zD ?_ | refine zA ?_ _)); exact BK368.out) hb); have n4_ := Aside0.mk (below_step (by repeat (first | (with_reducible first | exact HB.out | apply yA | apply yN | apply yD | refine below_set ?_ GE364.out | refine below_set ?_ GE368.out) | exact HB.out)) hb); clear HO371; clear HO374; clear BK364; clear BK368; clear HB; have HO371 := n0_; have HO374 := n1_; have BK364 := n2_; have BK368 := n3_; have HB := n4_; clear n0_ n1_ n2_ n3_ n4_; (try clear hb); (try clear hb2); (try clear hk); (try clear hi)))
        go_meet
        case rel => exact ⟨_, (t376), (by first | rfl | (simp; done) | (simp [*]; done)), H', ⟨by first | omega | exact Nat.le_refl _⟩, ⟨by (with_reducible repeat (first | refine zN ?_ _ | refine zD ?_ | refine zA ?_ _)); exact BK364.out⟩, ⟨by (with_reducible repeat (first | refine zN ?_ _ | refine zD ?_ | refine zA ?_ _)); exact BK368.out⟩, ⟨by repeat (first | (with_reducible first | exact HB.out | apply yA | apply yN | apply yD | refine below_set ?_ GE364.out | refine below_set ?_ GE368.out) | exact HB.out)⟩⟩
      · rw [if_neg c13] at H
        exact absurd H (by simp)
    · rw [if_neg c11] at H
      have c11b0 : (a0_0 == 3) = false := beq_eq_false_iff_ne.mpr c11
      have c11b1 : (a0_0 != 3) = true := bne_iff_ne.mpr c11
      (first | rw [c11b0] | (simp only [i64_w, i32_w]; rw [c11b0]) | skip)
      have H' := Aside0.mk H
      clear H
      have hnb23 := NB364_368.out
      have hnc23 := NB368_364.out
      have hcz24_0 : w8.cell? ⟨gb364, 0, none⟩ = some (.int .i64 a0_0) := (blk_cell BK364.out 0).trans rfl
      have hcz24_1 : w8.cell? ⟨gb364, 1, none⟩ = some (.int .i64 a0_1) := (blk_cell BK364.out 1).trans rfl
      have hcz24_2 : w8.cell? ⟨gb364, 2, none⟩ = some (.string a0_2) := (blk_cell BK364.out 2).trans rfl
      have hfz24_0 := blk_frozen BK364.out 0
      have hfz24_1 := blk_frozen BK364.out 1
      have hfz24_2 := blk_frozen BK364.out 2
      go_wp2
      go_meet
      case rel => exact ⟨_, (false), (by first | rfl | (simp; done) | (simp [*]; done)), H', ⟨by first | omega | exact Nat.le_refl _⟩, ⟨by (with_reducible repeat (first | refine zN ?_ _ | refine zD ?_ | refine zA ?_ _)); refine blk_far ?_ NB364_368.out _; (with_reducible repeat (first | refine zN ?_ _ | refine zD ?_ | refine zA ?_ _)); refine blk_far ?_ NB364_368.out _; (with_reducible repeat (first | refine zN ?_ _ | refine zD ?_ | refine zA ?_ _)); refine blk_far ?_ NB364_368.out _; (with_reducible repeat (first | refine zN ?_ _ | refine zD ?_ | refine zA ?_ _)); exact BK364.out⟩, ⟨by (with_reducible repeat (first | refine zN ?_ _ | refine zD ?_ | refine zA ?_ _)); refine blk_put (cs := #[.int .i64 t365, .int .i64 t366, .string (⟨#[]⟩ : ByteArray)]) ?_ 2 _ rfl; (with_reducible repeat (first | refine zN ?_ _ | refine zD ?_ | refine zA ?_ _)); refine blk_put (cs := #[.int .i64 t365, .int .i64 0, .string (⟨#[]⟩ : ByteArray)]) ?_ 1 _ rfl; (with_reducible repeat (first | refine zN ?_ _ | refine zD ?_ | refine zA ?_ _)); refine blk_put (cs := #[.int .i64 0, .int .i64 0, .string (⟨#[]⟩ : ByteArray)]) ?_ 0 _ rfl; (with_reducible repeat (first | refine zN ?_ _ | refine zD ?_ | refine zA ?_ _)); exact BK368.out⟩, ⟨by repeat (first | (with_reducible first | exact HB.out | apply yA | apply yN | apply yD | refine below_set ?_ GE364.out | refine below_set ?_ GE368.out) | exact HB.out)⟩⟩
  case rest =>
    clear HC4
    try clear c1
    try clear c2
    try clear p2
    try clear c3
    try clear p3
    try clear q3
    try clear hx3
    try clear qi3
    try clear c5
    try clear c9
    try clear c11
    try clear c11b0
    try clear c11b1
    try clear c13
    try clear c13b0
    try clear c13b1
    try clear c15
    try clear c17
    try clear c23
    try clear hcz10_0
    try clear hcz10_1
    try clear hcz10_2
    try clear hcz16_0
    try clear hcz16_1
    try clear hcz16_2
    try clear hcz24_0
    try clear hcz24_1
    try clear hcz24_2
    try clear hcz6_0
    try clear hcz6_1
    try clear hcz6_2
    try clear hfz10_0
    try clear hfz10_1
    try clear hfz10_2
    try clear hfz16_0
    try clear hfz16_1
    try clear hfz16_2
    try clear hfz24_0
    try clear hfz24_1
    try clear hfz24_2
    try clear hfz6_0
    try clear hfz6_1
    try clear hfz6_2
    try clear hx375_0
    try clear hx375_1
    try clear hx375_2
    try clear p375
    try clear q375
    obtain ⟨kq, x27_3, rfl, HA, HJ3, BK364, BK368, HB⟩ := hcut
    cases kq with
    | zero => exact absurd HA.out (by simp [tacticianlaw01_ValueBack.j0])
    | succ kj3 =>
      have H := HA.out
      clear HA
      simp only [tacticianlaw01_ValueBack.j0] at H
      have HC25 := Aside0.mk H
      clear H
      go_upto_if 27 with (fail)
      go_cut [] (fun wc => ∃ (kq : Nat) (x369000_24 : Int) (x369001_24 : Int) (x369002_24 : ByteArray), Aside0 (tacticianlaw01_ValueBack.j1 kq a1 x369000_24 x369001_24 x369002_24 = some r) ∧ Aside0 (kq ≤ kj3) ∧ Aside0 (wc.heap[gb364]? = some (.cells #[.int .i64 a0_0, .int .i64 a0_1, .string a0_2] 25 (0, 0))) ∧ Aside0 (wc.heap[gb368]? = some (.cells #[.int .i64 x369000_24, .int .i64 x369001_24, .string x369002_24] 25 (0, 0))) ∧ Aside0 (Below w.heap.size w wc))
      case first =>
        have H := HC25.out
        clear HC25
        by_cases c26 : x27_3 = true
        · subst c26
          have H1 : (tacticianlaw01_ValueBack.j1 kj3 a1 a0_0 a0_1 a0_2) = some r := by rw [if_pos rfl] at H; exact H
          clear H
          have H := H1
          clear H1
          have H' := Aside0.mk H
          clear H
          have hnb27 := NB364_368.out
          have hnc27 := NB368_364.out
          have hcz28_0 : wc.cell? ⟨gb364, 0, none⟩ = some (.int .i64 a0_0) := (blk_cell BK364.out 0).trans rfl
          have hcz28_1 : wc.cell? ⟨gb364, 1, none⟩ = some (.int .i64 a0_1) := (blk_cell BK364.out 1).trans rfl
          have hcz28_2 : wc.cell? ⟨gb364, 2, none⟩ = some (.string a0_2) := (blk_cell BK364.out 2).trans rfl
          have hfz28_0 := blk_frozen BK364.out 0
          have hfz28_1 := blk_frozen BK364.out 1
          have hfz28_2 := blk_frozen BK364.out 2
          have hcz29_0 : wc.cell? ⟨gb368, 0, none⟩ = some (.int .i64 t365) := (blk_cell BK368.out 0).trans rfl
          have hcz29_1 : wc.cell? ⟨gb368, 1, none⟩ = some (.int .i64 t366) := (blk_cell BK368.out 1).trans rfl
          have hcz29_2 : wc.cell? ⟨gb368, 2, none⟩ = some (.string t367) := (blk_cell BK368.out 2).trans rfl
          have hfz29_0 := blk_frozen BK368.out 0
          have hfz29_1 := blk_frozen BK368.out 1
          have hfz29_2 := blk_frozen BK368.out 2
          go_wp2
          go_meet
          case rel => exact ⟨_, (a0_0), (a0_1), (a0_2), H', ⟨by have := HJ3.out; first | omega | exact Nat.le_refl _⟩, ⟨by (with_reducible repeat (first | refine zN ?_ _ | refine zD ?_ | refine zA ?_ _)); refine blk_far ?_ NB364_368.out _; (with_reducible repeat (first | refine zN ?_ _ | refine zD ?_ | refine zA ?_ _)); refine blk_far ?_ NB364_368.out _; (with_reducible repeat (first | refine zN ?_ _ | refine zD ?_ | refine zA ?_ _)); refine blk_far ?_ NB364_368.out _; (with_reducible repeat (first | refine zN ?_ _ | refine zD ?_ | refine zA ?_ _)); exact BK364.out⟩, ⟨by (with_reducible repeat (first | refine zN ?_ _ | refine zD ?_ | refine zA ?_ _)); refine blk_put (cs := #[.int .i64 a0_0, .int .i64 a0_1, .string t367]) ?_ 2 _ rfl; (with_reducible repeat (first | refine zN ?_ _ | refine zD ?_ | refine zA ?_ _)); refine blk_put (cs := #[.int .i64 a0_0, .int .i64 t366, .string t367]) ?_ 1 _ rfl; (with_reducible repeat (first | refine zN ?_ _ | refine zD ?_ | refine zA ?_ _)); refine blk_put (cs := #[.int .i64 t365, .int .i64 t366, .string t367]) ?_ 0 _ rfl; (with_reducible repeat (first | refine zN ?_ _ | refine zD ?_ | refine zA ?_ _)); exact BK368.out⟩, ⟨by repeat (first | (with_reducible first | exact HB.out | apply yA | apply yN | apply yD | refine below_set ?_ GE364.out | refine below_set ?_ GE368.out) | exact HB.out)⟩⟩
        · replace c26 := Bool.eq_false_iff.mpr c26
          subst c26
          have H1 : (tacticianlaw01_ValueBack.j1 kj3 a1 t365 t366 t367) = some r := by rw [if_neg (show ¬ (false = true) by decide)] at H; exact H
          clear H
          have H := H1
          clear H1
          have H' := Aside0.mk H
          clear H
          go_wp2
          go_meet
          case rel => exact ⟨_, (t365), (t366), (t367), H', ⟨by have := HJ3.out; first | omega | exact Nat.le_refl _⟩, ⟨by (with_reducible repeat (first | refine zN ?_ _ | refine zD ?_ | refine zA ?_ _)); exact BK364.out⟩, ⟨by (with_reducible repeat (first | refine zN ?_ _ | refine zD ?_ | refine zA ?_ _)); exact BK368.out⟩, ⟨by repeat (first | (with_reducible first | exact HB.out | apply yA | apply yN | apply yD | refine below_set ?_ GE364.out | refine below_set ?_ GE368.out) | exact HB.out)⟩⟩
      case rest =>
        clear HC25
        try clear c1
        try clear c2
        try clear p2
        try clear c3
        try clear p3
        try clear q3
        try clear hx3
        try clear qi3
        try clear c5
        try clear c9
        try clear c11
        try clear c11b0
        try clear c11b1
        try clear c13
        try clear c13b0
        try clear c13b1
        try clear c15
        try clear c17
        try clear c23
        try clear c26
        try clear c27
        try clear hcz10_0
        try clear hcz10_1
        try clear hcz10_2
        try clear hcz16_0
        try clear hcz16_1
        try clear hcz16_2
        try clear hcz24_0
        try clear hcz24_1
        try clear hcz24_2
        try clear hcz28_0
        try clear hcz28_1
        try clear hcz28_2
        try clear hcz29_0
        try clear hcz29_1
        try clear hcz29_2
        try clear hcz6_0
        try clear hcz6_1
        try clear hcz6_2
        try clear hfz10_0
        try clear hfz10_1
        try clear hfz10_2
        try clear hfz16_0
        try clear hfz16_1
        try clear hfz16_2
        try clear hfz24_0
        try clear hfz24_1
        try clear hfz24_2
        try clear hfz28_0
        try clear hfz28_1
        try clear hfz28_2
        try clear hfz29_0
        try clear hfz29_1
        try clear hfz29_2
        try clear hfz6_0
        try clear hfz6_1
        try clear hfz6_2
        try clear hx375_0
        try clear hx375_1
        try clear hx375_2
        try clear p2
        try clear p3
        try clear p375
        try clear q3
        try clear q375
        obtain ⟨kq, x369000_24, x369001_24, x369002_24, HA, HJ24, BK364, BK368, HB⟩ := hcut
        cases kq with
        | zero => exact absurd HA.out (by simp [tacticianlaw01_ValueBack.j1])
        | succ kj24 =>
          have H := HA.out
          clear HA
          simp only [tacticianlaw01_ValueBack.j1] at H
          replace H := Option.bind_eq_some_iff.mp H
          obtain ⟨⟨t377, t378⟩, A300, H⟩ := H
          replace H : ((value_Parse.f t377).bind fun bt379 => (if t378 = 0 then (if bt379.2.2.2 = 0 then (if bt379.1 = x369000_24 then (if bt379.2.1 = x369001_24 then (if bt379.2.2.1.toList = x369002_24.toList then (tacticianlaw01_ValueBack.j2 kj24 a1 false) else (tacticianlaw01_ValueBack.j2 kj24 a1 true)) else (tacticianlaw01_ValueBack.j2 kj24 a1 true)) else (tacticianlaw01_ValueBack.j2 kj24 a1 true)) else (tacticianlaw01_ValueBack.j2 kj24 a1 true)) else (tacticianlaw01_ValueBack.j2 kj24 a1 true))) = some r := H
          have A30 := Aside0.mk A300
          clear A300
          replace H := Option.bind_eq_some_iff.mp H
          obtain ⟨⟨t379, t380, t381, t382⟩, A310, H⟩ := H
          replace H : (if t378 = 0 then (if t382 = 0 then (if t379 = x369000_24 then (if t380 = x369001_24 then (if t381.toList = x369002_24.toList then (tacticianlaw01_ValueBack.j2 kj24 a1 false) else (tacticianlaw01_ValueBack.j2 kj24 a1 true)) else (tacticianlaw01_ValueBack.j2 kj24 a1 true)) else (tacticianlaw01_ValueBack.j2 kj24 a1 true)) else (tacticianlaw01_ValueBack.j2 kj24 a1 true)) else (tacticianlaw01_ValueBack.j2 kj24 a1 true)) = some r := H
          have A31 := Aside0.mk A310
          clear A310
          have HC32 := Aside0.mk H
          clear H
          have hnb33 := NB368_364.out
          have hnc33 := NB364_368.out
          have hcz34_0 : wc.cell? ⟨gb368, 0, none⟩ = some (.int .i64 x369000_24) := (blk_cell BK368.out 0).trans rfl
          have hcz34_1 : wc.cell? ⟨gb368, 1, none⟩ = some (.int .i64 x369001_24) := (blk_cell BK368.out 1).trans rfl
          have hcz34_2 : wc.cell? ⟨gb368, 2, none⟩ = some (.string x369002_24) := (blk_cell BK368.out 2).trans rfl
          have hfz34_0 := blk_frozen BK368.out 0
          have hfz34_1 := blk_frozen BK368.out 1
          have hfz34_2 := blk_frozen BK368.out 2
          go_upto_region 6 with (first | ((with_reducible refine gate_callee (f := 13) rfl ?_); refine goesL_ (some 31) rfl rfl Tryd.func13 (by kernel_rfl) rfl #[.agg #[.int .i64 x369000_24, .int .i64 x369001_24, .string x369002_24]] rfl (by (try simp only [List.map_toArray, List.map_cons, List.map_nil]); first | done | rfl | (simp only [List.length_drop, List.length_take]; rfl)) ?_; (with_reducible refine (value_String.calls x369000_24 x369001_24 x369002_24 t377 t378 _ ?side1 A30.out).mono ?_); (case side1 => exact Laid.below HLD.out (by repeat (first | (with_reducible first | exact HB.out | apply yA | apply yN | apply yD | refine below_set ?_ GE364.out | refine below_set ?_ GE368.out) | exact HB.out))); rintro e w35 ⟨rfl, hb⟩; refine ⟨_, rfl, ?_⟩; have n0_ := Aside0.mk (blk_below (g := gb364) (o := .cells #[.int .i64 a0_0, .int .i64 a0_1, .string a0_2] 25 (0, 0)) (by (with_reducible repeat (first | refine zN ?_ _ | refine zD ?_ | refine zA ?_ _)); exact BK364.out) hb); have n1_ := Aside0.mk (blk_below (g := gb368) (o := .cells #[.int .i64 x369000_24, .int .i64 x369001_24, .string x369002_24] 25 (0, 0)) (by (with_reducible repeat (first | refine zN ?_ _ | refine zD ?_ | refine zA ?_ _)); exact BK368.out) hb); have n2_ := Aside0.mk (below_step (by repeat (first | (with_reducible first | exact HB.out | apply yA | apply yN | apply yD | refine below_set ?_ GE364.out | refine below_set ?_ GE368.out) | exact HB.out)) hb); clear BK364; clear BK368; clear HB; have BK364 := n0_; have BK368 := n1_; have HB := n2_; clear n0_ n1_ n2_; (try clear hb); (try clear hb2); (try clear hk); (try clear hi)) | ((with_reducible refine gate_callee (f := 7) rfl ?_); refine goesL_ (some 36) rfl rfl Tryd.func7 (by kernel_rfl) rfl #[.string t377] rfl (by (try simp only [List.map_toArray, List.map_cons, List.map_nil]); first | done | rfl | (simp only [List.length_drop, List.length_take]; rfl)) ?_; (with_reducible refine (value_Parse.calls t377 t379 t380 t381 t382 _ ?side1 A31.out).mono ?_); (case side1 => exact Laid.below HLD.out (by repeat (first | (with_reducible first | exact HB.out | apply yA | apply yN | apply yD | refine below_set ?_ GE364.out | refine below_set ?_ GE368.out) | exact HB.out))); rintro e w36 ⟨rfl, hb⟩; refine ⟨_, rfl, ?_⟩; have n0_ := Aside0.mk (blk_below (g := gb364) (o := .cells #[.int .i64 a0_0, .int .i64 a0_1, .string a0_2] 25 (0, 0)) (by (with_reducible repeat (first | refine zN ?_ _ | refine zD ?_ | refine zA ?_ _)); exact BK364.out) hb); have n1_ := Aside0.mk (blk_below (g := gb368) (o := .cells #[.int .i64 x369000_24, .int .i64 x369001_24, .string x369002_24] 25 (0, 0)) (by (with_reducible repeat (first | refine zN ?_ _ | refine zD ?_ | refine zA ?_ _)); exact BK368.out) hb); have n2_ := Aside0.mk (below_step (by repeat (first | (with_reducible first | exact HB.out | apply yA | apply yN | apply yD | refine below_set ?_ GE364.out | refine below_set ?_ GE368.out) | exact HB.out)) hb); clear BK364; clear BK368; clear HB; have BK364 := n0_; have BK368 := n1_; have HB := n2_; clear n0_ n1_ n2_; (try clear hb); (try clear hb2); (try clear hk); (try clear hi)) | ((with_reducible refine gate_dst (N := 8) rfl ?_); (try (refine gate_guard (by rfl) ?_; dsimp only)); refine box_event ?hg (N := 8) ?hd (cs := #[.int .i64 0, .int .i64 0, .string (⟨#[]⟩ : ByteArray)]) (t := 25) ?hr ?_; (case hd => rfl); (case hg => rfl); (case hr => first | (go_simp; done) | (go_simp; rfl)); intro gb383 hg w37 hbox hb; have n0_ := Aside0.mk (blk_below (g := gb364) (o := .cells #[.int .i64 a0_0, .int .i64 a0_1, .string a0_2] 25 (0, 0)) (by (with_reducible repeat (first | refine zN ?_ _ | refine zD ?_ | refine zA ?_ _)); exact BK364.out) hb); have n1_ := Aside0.mk (blk_below (g := gb368) (o := .cells #[.int .i64 x369000_24, .int .i64 x369001_24, .string x369002_24] 25 (0, 0)) (by (with_reducible repeat (first | refine zN ?_ _ | refine zD ?_ | refine zA ?_ _)); exact BK368.out) hb); have n2_ := Aside0.mk (below_step (by repeat (first | (with_reducible first | exact HB.out | apply yA | apply yN | apply yD | refine below_set ?_ GE364.out | refine below_set ?_ GE368.out) | exact HB.out)) hb); have n3_ := Aside0.mk (hbox); have n4_ := Aside0.mk ((by rw [hg]; exact (below_size (by repeat (first | (with_reducible first | exact HB.out | apply yA | apply yN | apply yD | refine below_set ?_ GE364.out | refine below_set ?_ GE368.out) | exact HB.out))) : w.heap.size ≤ gb383)); have n5_ := Aside0.mk ((by rw [hg]; exact (below_size (by repeat (first | (with_reducible first | exact HB.out | apply yA | apply yN | apply yD | refine below_set ?_ GE364.out | refine below_set ?_ GE368.out) | exact HB.out))) : w.heap.size ≤ gb383)); have n6_ := Aside0.mk ((by rw [hg]; exact Nat.ne_of_lt (blk_lt (g := gb364) (o := .cells #[.int .i64 a0_0, .int .i64 a0_1, .string a0_2] 25 (0, 0)) (by (with_reducible repeat (first | refine zN ?_ _ | refine zD ?_ | refine zA ?_ _)); exact BK364.out)) : gb364 ≠ gb383)); have n7_ := Aside0.mk ((by rw [hg]; exact Nat.ne_of_gt (blk_lt (g := gb364) (o := .cells #[.int .i64 a0_0, .int .i64 a0_1, .string a0_2] 25 (0, 0)) (by (with_reducible repeat (first | refine zN ?_ _ | refine zD ?_ | refine zA ?_ _)); exact BK364.out)) : gb383 ≠ gb364)); have n8_ := Aside0.mk ((by rw [hg]; exact Nat.ne_of_lt (blk_lt (g := gb368) (o := .cells #[.int .i64 x369000_24, .int .i64 x369001_24, .string x369002_24] 25 (0, 0)) (by (with_reducible repeat (first | refine zN ?_ _ | refine zD ?_ | refine zA ?_ _)); exact BK368.out)) : gb368 ≠ gb383)); have n9_ := Aside0.mk ((by rw [hg]; exact Nat.ne_of_gt (blk_lt (g := gb368) (o := .cells #[.int .i64 x369000_24, .int .i64 x369001_24, .string x369002_24] 25 (0, 0)) (by (with_reducible repeat (first | refine zN ?_ _ | refine zD ?_ | refine zA ?_ _)); exact BK368.out)) : gb383 ≠ gb368)); clear BK364; clear BK368; clear HB; have BK364 := n0_; have BK368 := n1_; have HB := n2_; have BK383 := n3_; have GW383 := n4_; have GE383 := n5_; have NB364_383 := n6_; have NB383_364 := n7_; have NB368_383 := n8_; have NB383_368 := n9_; clear n0_ n1_ n2_ n3_ n4_ n5_ n6_ n7_ n8_ n9_; clear hb hbox hg; have hnb38 := NB383_364.out; have hnc38 := NB364_383.out; have hnb39 := NB383_368.out; have hnc39 := NB368_383.out; have hcz40_0 : w37.cell? ⟨gb383, 0, none⟩ = some (.int .i64 0) := (blk_cell BK383.out 0).trans rfl; have hcz40_1 : w37.cell? ⟨gb383, 1, none⟩ = some (.int .i64 0) := (blk_cell BK383.out 1).trans rfl; have hcz40_2 : w37.cell? ⟨gb383, 2, none⟩ = some (.string (⟨#[]⟩ : ByteArray)) := (blk_cell BK383.out 2).trans rfl; have hfz40_0 := blk_frozen BK383.out 0; have hfz40_1 := blk_frozen BK383.out 1; have hfz40_2 := blk_frozen BK383.out 2))
          (try simp only [Act.put, List.setIfInBounds_toArray, List.set_cons_zero, List.set_cons_succ])
          go_cut [49] (fun v49 wc => ∃ (kq : Nat) (x49_31 : Bool), v49 = .bool x49_31 ∧ Aside0 (tacticianlaw01_ValueBack.j2 kq a1 x49_31 = some r) ∧ Aside0 (kq ≤ kj24) ∧ Aside0 (wc.heap[gb364]? = some (.cells #[.int .i64 a0_0, .int .i64 a0_1, .string a0_2] 25 (0, 0))) ∧ Aside0 (wc.heap[gb368]? = some (.cells #[.int .i64 x369000_24, .int .i64 x369001_24, .string x369002_24] 25 (0, 0))) ∧ Aside0 (wc.heap[gb383]? = some (.cells #[.int .i64 t379, .int .i64 t380, .string t381] 25 (0, 0))) ∧ Aside0 (Below w.heap.size w wc))
          case first =>
            have H := HC32.out
            clear HC32
            by_cases c41 : t378 = 0
            · rw [if_pos c41] at H
              have c41b0 : (t378 == 0) = true := beq_iff_eq.mpr c41
              have c41b1 : (t378 != 0) = false := bne_eq_false_iff_eq.mpr c41
              clear c41
              (first | rw [c41b0] | (simp only [i64_w, i32_w]; rw [c41b0]) | skip)
              by_cases c42 : t382 = 0
              · rw [if_pos c42] at H
                have c42b0 : (t382 == 0) = true := beq_iff_eq.mpr c42
                have c42b1 : (t382 != 0) = false := bne_eq_false_iff_eq.mpr c42
                clear c42
                by_cases c43 : t379 = x369000_24
                · rw [if_pos c43] at H
                  have c43b0 : (t379 == x369000_24) = true := beq_iff_eq.mpr c43
                  have c43b1 : (t379 != x369000_24) = false := bne_eq_false_iff_eq.mpr c43
                  clear c43
                  by_cases c44 : t380 = x369001_24
                  · rw [if_pos c44] at H
                    have c44b0 : (t380 == x369001_24) = true := beq_iff_eq.mpr c44
                    have c44b1 : (t380 != x369001_24) = false := bne_eq_false_iff_eq.mpr c44
                    clear c44
                    by_cases c45 : t381.toList = x369002_24.toList
                    · rw [if_pos c45] at H
                      have c45b0 : (t381.toList == x369002_24.toList) = true := beq_iff_eq.mpr c45
                      have c45b1 : (t381.toList != x369002_24.toList) = false := bne_eq_false_iff_eq.mpr c45
                      clear c45
                      have H' := Aside0.mk H
                      clear H
                      have hnb46 := NB383_364.out
                      have hnc46 := NB364_383.out
                      have hnb47 := NB383_368.out
                      have hnc47 := NB368_383.out
                      have hcz48_0 : w37.cell? ⟨gb383, 0, none⟩ = some (.int .i64 0) := (blk_cell BK383.out 0).trans rfl
                      have hcz48_1 : w37.cell? ⟨gb383, 1, none⟩ = some (.int .i64 0) := (blk_cell BK383.out 1).trans rfl
                      have hcz48_2 : w37.cell? ⟨gb383, 2, none⟩ = some (.string (⟨#[]⟩ : ByteArray)) := (blk_cell BK383.out 2).trans rfl
                      have hfz48_0 := blk_frozen BK383.out 0
                      have hfz48_1 := blk_frozen BK383.out 1
                      have hfz48_2 := blk_frozen BK383.out 2
                      have hnb49 := NB368_364.out
                      have hnc49 := NB364_368.out
                      have hcz50_0 : w37.cell? ⟨gb368, 0, none⟩ = some (.int .i64 x369000_24) := (blk_cell BK368.out 0).trans rfl
                      have hcz50_1 : w37.cell? ⟨gb368, 1, none⟩ = some (.int .i64 x369001_24) := (blk_cell BK368.out 1).trans rfl
                      have hcz50_2 : w37.cell? ⟨gb368, 2, none⟩ = some (.string x369002_24) := (blk_cell BK368.out 2).trans rfl
                      have hfz50_0 := blk_frozen BK368.out 0
                      have hfz50_1 := blk_frozen BK368.out 1
                      have hfz50_2 := blk_frozen BK368.out 2
                      go_wp2
                      go_meet
                      case rel => exact ⟨_, (false), (by first | rfl | (simp; done) | (simp [*]; done)), H', ⟨by have := HJ3.out; have := HJ24.out; first | omega | exact Nat.le_refl _⟩, ⟨by (with_reducible repeat (first | refine zN ?_ _ | refine zD ?_ | refine zA ?_ _)); refine blk_far ?_ NB364_383.out _; (with_reducible repeat (first | refine zN ?_ _ | refine zD ?_ | refine zA ?_ _)); refine blk_far ?_ NB364_383.out _; (with_reducible repeat (first | refine zN ?_ _ | refine zD ?_ | refine zA ?_ _)); refine blk_far ?_ NB364_383.out _; (with_reducible repeat (first | refine zN ?_ _ | refine zD ?_ | refine zA ?_ _)); exact BK364.out⟩, ⟨by (with_reducible repeat (first | refine zN ?_ _ | refine zD ?_ | refine zA ?_ _)); refine blk_far ?_ NB368_383.out _; (with_reducible repeat (first | refine zN ?_ _ | refine zD ?_ | refine zA ?_ _)); refine blk_far ?_ NB368_383.out _; (with_reducible repeat (first | refine zN ?_ _ | refine zD ?_ | refine zA ?_ _)); refine blk_far ?_ NB368_383.out _; (with_reducible repeat (first | refine zN ?_ _ | refine zD ?_ | refine zA ?_ _)); exact BK368.out⟩, ⟨by (with_reducible repeat (first | refine zN ?_ _ | refine zD ?_ | refine zA ?_ _)); refine blk_put (cs := #[.int .i64 t379, .int .i64 t380, .string (⟨#[]⟩ : ByteArray)]) ?_ 2 _ rfl; (with_reducible repeat (first | refine zN ?_ _ | refine zD ?_ | refine zA ?_ _)); refine blk_put (cs := #[.int .i64 t379, .int .i64 0, .string (⟨#[]⟩ : ByteArray)]) ?_ 1 _ rfl; (with_reducible repeat (first | refine zN ?_ _ | refine zD ?_ | refine zA ?_ _)); refine blk_put (cs := #[.int .i64 0, .int .i64 0, .string (⟨#[]⟩ : ByteArray)]) ?_ 0 _ rfl; (with_reducible repeat (first | refine zN ?_ _ | refine zD ?_ | refine zA ?_ _)); exact BK383.out⟩, ⟨by repeat (first | (with_reducible first | exact HB.out | apply yA | apply yN | apply yD | refine below_set ?_ GE364.out | refine below_set ?_ GE368.out | refine below_set ?_ GE383.out) | exact HB.out)⟩⟩
                    · rw [if_neg c45] at H
                      have c45b0 : (t381.toList == x369002_24.toList) = false := beq_eq_false_iff_ne.mpr c45
                      have c45b1 : (t381.toList != x369002_24.toList) = true := bne_iff_ne.mpr c45
                      have H' := Aside0.mk H
                      clear H
                      have hnb51 := NB383_364.out
                      have hnc51 := NB364_383.out
                      have hnb52 := NB383_368.out
                      have hnc52 := NB368_383.out
                      have hcz53_0 : w37.cell? ⟨gb383, 0, none⟩ = some (.int .i64 0) := (blk_cell BK383.out 0).trans rfl
                      have hcz53_1 : w37.cell? ⟨gb383, 1, none⟩ = some (.int .i64 0) := (blk_cell BK383.out 1).trans rfl
                      have hcz53_2 : w37.cell? ⟨gb383, 2, none⟩ = some (.string (⟨#[]⟩ : ByteArray)) := (blk_cell BK383.out 2).trans rfl
                      have hfz53_0 := blk_frozen BK383.out 0
                      have hfz53_1 := blk_frozen BK383.out 1
                      have hfz53_2 := blk_frozen BK383.out 2
                      have hnb54 := NB368_364.out
                      have hnc54 := NB364_368.out
                      have hcz55_0 : w37.cell? ⟨gb368, 0, none⟩ = some (.int .i64 x369000_24) := (blk_cell BK368.out 0).trans rfl
                      have hcz55_1 : w37.cell? ⟨gb368, 1, none⟩ = some (.int .i64 x369001_24) := (blk_cell BK368.out 1).trans rfl
                      have hcz55_2 : w37.cell? ⟨gb368, 2, none⟩ = some (.string x369002_24) := (blk_cell BK368.out 2).trans rfl
                      have hfz55_0 := blk_frozen BK368.out 0
                      have hfz55_1 := blk_frozen BK368.out 1
                      have hfz55_2 := blk_frozen BK368.out 2
                      go_wp2
                      go_meet
                      case rel => exact ⟨_, (true), (by first | rfl | (simp; done) | (simp [*]; done)), H', ⟨by have := HJ3.out; have := HJ24.out; first | omega | exact Nat.le_refl _⟩, ⟨by (with_reducible repeat (first | refine zN ?_ _ | refine zD ?_ | refine zA ?_ _)); refine blk_far ?_ NB364_383.out _; (with_reducible repeat (first | refine zN ?_ _ | refine zD ?_ | refine zA ?_ _)); refine blk_far ?_ NB364_383.out _; (with_reducible repeat (first | refine zN ?_ _ | refine zD ?_ | refine zA ?_ _)); refine blk_far ?_ NB364_383.out _; (with_reducible repeat (first | refine zN ?_ _ | refine zD ?_ | refine zA ?_ _)); exact BK364.out⟩, ⟨by (with_reducible repeat (first | refine zN ?_ _ | refine zD ?_ | refine zA ?_ _)); refine blk_far ?_ NB368_383.out _; (with_reducible repeat (first | refine zN ?_ _ | refine zD ?_ | refine zA ?_ _)); refine blk_far ?_ NB368_383.out _; (with_reducible repeat (first | refine zN ?_ _ | refine zD ?_ | refine zA ?_ _)); refine blk_far ?_ NB368_383.out _; (with_reducible repeat (first | refine zN ?_ _ | refine zD ?_ | refine zA ?_ _)); exact BK368.out⟩, ⟨by (with_reducible repeat (first | refine zN ?_ _ | refine zD ?_ | refine zA ?_ _)); refine blk_put (cs := #[.int .i64 t379, .int .i64 t380, .string (⟨#[]⟩ : ByteArray)]) ?_ 2 _ rfl; (with_reducible repeat (first | refine zN ?_ _ | refine zD ?_ | refine zA ?_ _)); refine blk_put (cs := #[.int .i64 t379, .int .i64 0, .string (⟨#[]⟩ : ByteArray)]) ?_ 1 _ rfl; (with_reducible repeat (first | refine zN ?_ _ | refine zD ?_ | refine zA ?_ _)); refine blk_put (cs := #[.int .i64 0, .int .i64 0, .string (⟨#[]⟩ : ByteArray)]) ?_ 0 _ rfl; (with_reducible repeat (first | refine zN ?_ _ | refine zD ?_ | refine zA ?_ _)); exact BK383.out⟩, ⟨by repeat (first | (with_reducible first | exact HB.out | apply yA | apply yN | apply yD | refine below_set ?_ GE364.out | refine below_set ?_ GE368.out | refine below_set ?_ GE383.out) | exact HB.out)⟩⟩
                  · rw [if_neg c44] at H
                    have c44b0 : (t380 == x369001_24) = false := beq_eq_false_iff_ne.mpr c44
                    have c44b1 : (t380 != x369001_24) = true := bne_iff_ne.mpr c44
                    have H' := Aside0.mk H
                    clear H
                    have hnb56 := NB383_364.out
                    have hnc56 := NB364_383.out
                    have hnb57 := NB383_368.out
                    have hnc57 := NB368_383.out
                    have hcz58_0 : w37.cell? ⟨gb383, 0, none⟩ = some (.int .i64 0) := (blk_cell BK383.out 0).trans rfl
                    have hcz58_1 : w37.cell? ⟨gb383, 1, none⟩ = some (.int .i64 0) := (blk_cell BK383.out 1).trans rfl
                    have hcz58_2 : w37.cell? ⟨gb383, 2, none⟩ = some (.string (⟨#[]⟩ : ByteArray)) := (blk_cell BK383.out 2).trans rfl
                    have hfz58_0 := blk_frozen BK383.out 0
                    have hfz58_1 := blk_frozen BK383.out 1
                    have hfz58_2 := blk_frozen BK383.out 2
                    have hnb59 := NB368_364.out
                    have hnc59 := NB364_368.out
                    have hcz60_0 : w37.cell? ⟨gb368, 0, none⟩ = some (.int .i64 x369000_24) := (blk_cell BK368.out 0).trans rfl
                    have hcz60_1 : w37.cell? ⟨gb368, 1, none⟩ = some (.int .i64 x369001_24) := (blk_cell BK368.out 1).trans rfl
                    have hcz60_2 : w37.cell? ⟨gb368, 2, none⟩ = some (.string x369002_24) := (blk_cell BK368.out 2).trans rfl
                    have hfz60_0 := blk_frozen BK368.out 0
                    have hfz60_1 := blk_frozen BK368.out 1
                    have hfz60_2 := blk_frozen BK368.out 2
                    go_wp2
                    go_meet
                    case rel => exact ⟨_, (true), (by first | rfl | (simp; done) | (simp [*]; done)), H', ⟨by have := HJ3.out; have := HJ24.out; first | omega | exact Nat.le_refl _⟩, ⟨by (with_reducible repeat (first | refine zN ?_ _ | refine zD ?_ | refine zA ?_ _)); refine blk_far ?_ NB364_383.out _; (with_reducible repeat (first | refine zN ?_ _ | refine zD ?_ | refine zA ?_ _)); refine blk_far ?_ NB364_383.out _; (with_reducible repeat (first | refine zN ?_ _ | refine zD ?_ | refine zA ?_ _)); refine blk_far ?_ NB364_383.out _; (with_reducible repeat (first | refine zN ?_ _ | refine zD ?_ | refine zA ?_ _)); exact BK364.out⟩, ⟨by (with_reducible repeat (first | refine zN ?_ _ | refine zD ?_ | refine zA ?_ _)); refine blk_far ?_ NB368_383.out _; (with_reducible repeat (first | refine zN ?_ _ | refine zD ?_ | refine zA ?_ _)); refine blk_far ?_ NB368_383.out _; (with_reducible repeat (first | refine zN ?_ _ | refine zD ?_ | refine zA ?_ _)); refine blk_far ?_ NB368_383.out _; (with_reducible repeat (first | refine zN ?_ _ | refine zD ?_ | refine zA ?_ _)); exact BK368.out⟩, ⟨by (with_reducible repeat (first | refine zN ?_ _ | refine zD ?_ | refine zA ?_ _)); refine blk_put (cs := #[.int .i64 t379, .int .i64 t380, .string (⟨#[]⟩ : ByteArray)]) ?_ 2 _ rfl; (with_reducible repeat (first | refine zN ?_ _ | refine zD ?_ | refine zA ?_ _)); refine blk_put (cs := #[.int .i64 t379, .int .i64 0, .string (⟨#[]⟩ : ByteArray)]) ?_ 1 _ rfl; (with_reducible repeat (first | refine zN ?_ _ | refine zD ?_ | refine zA ?_ _)); refine blk_put (cs := #[.int .i64 0, .int .i64 0, .string (⟨#[]⟩ : ByteArray)]) ?_ 0 _ rfl; (with_reducible repeat (first | refine zN ?_ _ | refine zD ?_ | refine zA ?_ _)); exact BK383.out⟩, ⟨by repeat (first | (with_reducible first | exact HB.out | apply yA | apply yN | apply yD | refine below_set ?_ GE364.out | refine below_set ?_ GE368.out | refine below_set ?_ GE383.out) | exact HB.out)⟩⟩
                · rw [if_neg c43] at H
                  have c43b0 : (t379 == x369000_24) = false := beq_eq_false_iff_ne.mpr c43
                  have c43b1 : (t379 != x369000_24) = true := bne_iff_ne.mpr c43
                  have H' := Aside0.mk H
                  clear H
                  have hnb61 := NB383_364.out
                  have hnc61 := NB364_383.out
                  have hnb62 := NB383_368.out
                  have hnc62 := NB368_383.out
                  have hcz63_0 : w37.cell? ⟨gb383, 0, none⟩ = some (.int .i64 0) := (blk_cell BK383.out 0).trans rfl
                  have hcz63_1 : w37.cell? ⟨gb383, 1, none⟩ = some (.int .i64 0) := (blk_cell BK383.out 1).trans rfl
                  have hcz63_2 : w37.cell? ⟨gb383, 2, none⟩ = some (.string (⟨#[]⟩ : ByteArray)) := (blk_cell BK383.out 2).trans rfl
                  have hfz63_0 := blk_frozen BK383.out 0
                  have hfz63_1 := blk_frozen BK383.out 1
                  have hfz63_2 := blk_frozen BK383.out 2
                  have hnb64 := NB368_364.out
                  have hnc64 := NB364_368.out
                  have hcz65_0 : w37.cell? ⟨gb368, 0, none⟩ = some (.int .i64 x369000_24) := (blk_cell BK368.out 0).trans rfl
                  have hcz65_1 : w37.cell? ⟨gb368, 1, none⟩ = some (.int .i64 x369001_24) := (blk_cell BK368.out 1).trans rfl
                  have hcz65_2 : w37.cell? ⟨gb368, 2, none⟩ = some (.string x369002_24) := (blk_cell BK368.out 2).trans rfl
                  have hfz65_0 := blk_frozen BK368.out 0
                  have hfz65_1 := blk_frozen BK368.out 1
                  have hfz65_2 := blk_frozen BK368.out 2
                  go_wp2
                  go_meet
                  case rel => exact ⟨_, (true), (by first | rfl | (simp; done) | (simp [*]; done)), H', ⟨by have := HJ3.out; have := HJ24.out; first | omega | exact Nat.le_refl _⟩, ⟨by (with_reducible repeat (first | refine zN ?_ _ | refine zD ?_ | refine zA ?_ _)); refine blk_far ?_ NB364_383.out _; (with_reducible repeat (first | refine zN ?_ _ | refine zD ?_ | refine zA ?_ _)); refine blk_far ?_ NB364_383.out _; (with_reducible repeat (first | refine zN ?_ _ | refine zD ?_ | refine zA ?_ _)); refine blk_far ?_ NB364_383.out _; (with_reducible repeat (first | refine zN ?_ _ | refine zD ?_ | refine zA ?_ _)); exact BK364.out⟩, ⟨by (with_reducible repeat (first | refine zN ?_ _ | refine zD ?_ | refine zA ?_ _)); refine blk_far ?_ NB368_383.out _; (with_reducible repeat (first | refine zN ?_ _ | refine zD ?_ | refine zA ?_ _)); refine blk_far ?_ NB368_383.out _; (with_reducible repeat (first | refine zN ?_ _ | refine zD ?_ | refine zA ?_ _)); refine blk_far ?_ NB368_383.out _; (with_reducible repeat (first | refine zN ?_ _ | refine zD ?_ | refine zA ?_ _)); exact BK368.out⟩, ⟨by (with_reducible repeat (first | refine zN ?_ _ | refine zD ?_ | refine zA ?_ _)); refine blk_put (cs := #[.int .i64 t379, .int .i64 t380, .string (⟨#[]⟩ : ByteArray)]) ?_ 2 _ rfl; (with_reducible repeat (first | refine zN ?_ _ | refine zD ?_ | refine zA ?_ _)); refine blk_put (cs := #[.int .i64 t379, .int .i64 0, .string (⟨#[]⟩ : ByteArray)]) ?_ 1 _ rfl; (with_reducible repeat (first | refine zN ?_ _ | refine zD ?_ | refine zA ?_ _)); refine blk_put (cs := #[.int .i64 0, .int .i64 0, .string (⟨#[]⟩ : ByteArray)]) ?_ 0 _ rfl; (with_reducible repeat (first | refine zN ?_ _ | refine zD ?_ | refine zA ?_ _)); exact BK383.out⟩, ⟨by repeat (first | (with_reducible first | exact HB.out | apply yA | apply yN | apply yD | refine below_set ?_ GE364.out | refine below_set ?_ GE368.out | refine below_set ?_ GE383.out) | exact HB.out)⟩⟩
              · rw [if_neg c42] at H
                have c42b0 : (t382 == 0) = false := beq_eq_false_iff_ne.mpr c42
                have c42b1 : (t382 != 0) = true := bne_iff_ne.mpr c42
                have H' := Aside0.mk H
                clear H
                go_wp2
                go_meet
                case rel => exact ⟨_, (true), (by first | rfl | (simp; done) | (simp [*]; done)), H', ⟨by have := HJ3.out; have := HJ24.out; first | omega | exact Nat.le_refl _⟩, ⟨by (with_reducible repeat (first | refine zN ?_ _ | refine zD ?_ | refine zA ?_ _)); refine blk_far ?_ NB364_383.out _; (with_reducible repeat (first | refine zN ?_ _ | refine zD ?_ | refine zA ?_ _)); refine blk_far ?_ NB364_383.out _; (with_reducible repeat (first | refine zN ?_ _ | refine zD ?_ | refine zA ?_ _)); refine blk_far ?_ NB364_383.out _; (with_reducible repeat (first | refine zN ?_ _ | refine zD ?_ | refine zA ?_ _)); exact BK364.out⟩, ⟨by (with_reducible repeat (first | refine zN ?_ _ | refine zD ?_ | refine zA ?_ _)); refine blk_far ?_ NB368_383.out _; (with_reducible repeat (first | refine zN ?_ _ | refine zD ?_ | refine zA ?_ _)); refine blk_far ?_ NB368_383.out _; (with_reducible repeat (first | refine zN ?_ _ | refine zD ?_ | refine zA ?_ _)); refine blk_far ?_ NB368_383.out _; (with_reducible repeat (first | refine zN ?_ _ | refine zD ?_ | refine zA ?_ _)); exact BK368.out⟩, ⟨by (with_reducible repeat (first | refine zN ?_ _ | refine zD ?_ | refine zA ?_ _)); refine blk_put (cs := #[.int .i64 t379, .int .i64 t380, .string (⟨#[]⟩ : ByteArray)]) ?_ 2 _ rfl; (with_reducible repeat (first | refine zN ?_ _ | refine zD ?_ | refine zA ?_ _)); refine blk_put (cs := #[.int .i64 t379, .int .i64 0, .string (⟨#[]⟩ : ByteArray)]) ?_ 1 _ rfl; (with_reducible repeat (first | refine zN ?_ _ | refine zD ?_ | refine zA ?_ _)); refine blk_put (cs := #[.int .i64 0, .int .i64 0, .string (⟨#[]⟩ : ByteArray)]) ?_ 0 _ rfl; (with_reducible repeat (first | refine zN ?_ _ | refine zD ?_ | refine zA ?_ _)); exact BK383.out⟩, ⟨by repeat (first | (with_reducible first | exact HB.out | apply yA | apply yN | apply yD | refine below_set ?_ GE364.out | refine below_set ?_ GE368.out | refine below_set ?_ GE383.out) | exact HB.out)⟩⟩
            · rw [if_neg c41] at H
              have c41b0 : (t378 == 0) = false := beq_eq_false_iff_ne.mpr c41
              have c41b1 : (t378 != 0) = true := bne_iff_ne.mpr c41
              (first | rw [c41b0] | (simp only [i64_w, i32_w]; rw [c41b0]) | skip)
              have H' := Aside0.mk H
              clear H
              go_wp2
              go_meet
              case rel => exact ⟨_, (true), (by first | rfl | (simp; done) | (simp [*]; done)), H', ⟨by have := HJ3.out; have := HJ24.out; first | omega | exact Nat.le_refl _⟩, ⟨by (with_reducible repeat (first | refine zN ?_ _ | refine zD ?_ | refine zA ?_ _)); refine blk_far ?_ NB364_383.out _; (with_reducible repeat (first | refine zN ?_ _ | refine zD ?_ | refine zA ?_ _)); refine blk_far ?_ NB364_383.out _; (with_reducible repeat (first | refine zN ?_ _ | refine zD ?_ | refine zA ?_ _)); refine blk_far ?_ NB364_383.out _; (with_reducible repeat (first | refine zN ?_ _ | refine zD ?_ | refine zA ?_ _)); exact BK364.out⟩, ⟨by (with_reducible repeat (first | refine zN ?_ _ | refine zD ?_ | refine zA ?_ _)); refine blk_far ?_ NB368_383.out _; (with_reducible repeat (first | refine zN ?_ _ | refine zD ?_ | refine zA ?_ _)); refine blk_far ?_ NB368_383.out _; (with_reducible repeat (first | refine zN ?_ _ | refine zD ?_ | refine zA ?_ _)); refine blk_far ?_ NB368_383.out _; (with_reducible repeat (first | refine zN ?_ _ | refine zD ?_ | refine zA ?_ _)); exact BK368.out⟩, ⟨by (with_reducible repeat (first | refine zN ?_ _ | refine zD ?_ | refine zA ?_ _)); refine blk_put (cs := #[.int .i64 t379, .int .i64 t380, .string (⟨#[]⟩ : ByteArray)]) ?_ 2 _ rfl; (with_reducible repeat (first | refine zN ?_ _ | refine zD ?_ | refine zA ?_ _)); refine blk_put (cs := #[.int .i64 t379, .int .i64 0, .string (⟨#[]⟩ : ByteArray)]) ?_ 1 _ rfl; (with_reducible repeat (first | refine zN ?_ _ | refine zD ?_ | refine zA ?_ _)); refine blk_put (cs := #[.int .i64 0, .int .i64 0, .string (⟨#[]⟩ : ByteArray)]) ?_ 0 _ rfl; (with_reducible repeat (first | refine zN ?_ _ | refine zD ?_ | refine zA ?_ _)); exact BK383.out⟩, ⟨by repeat (first | (with_reducible first | exact HB.out | apply yA | apply yN | apply yD | refine below_set ?_ GE364.out | refine below_set ?_ GE368.out | refine below_set ?_ GE383.out) | exact HB.out)⟩⟩
          case rest =>
            clear HC32
            try clear c1
            try clear c2
            try clear p2
            try clear c3
            try clear p3
            try clear q3
            try clear hx3
            try clear qi3
            try clear c4
            try clear c5
            try clear c6
            try clear c7
            try clear c9
            try clear c11
            try clear c11b0
            try clear c11b1
            try clear c13
            try clear c13b0
            try clear c13b1
            try clear c15
            try clear c17
            try clear c23
            try clear c26
            try clear c27
            try clear c33
            try clear p37
            try clear q37
            try clear hx37
            try clear qi37
            try clear c38
            try clear c39
            try clear c41
            try clear c41b0
            try clear c41b1
            try clear c42
            try clear c42b0
            try clear c42b1
            try clear c43
            try clear c43b0
            try clear c43b1
            try clear c44
            try clear c44b0
            try clear c44b1
            try clear c45
            try clear c45b0
            try clear c45b1
            try clear c46
            try clear c47
            try clear c49
            try clear c51
            try clear c52
            try clear c54
            try clear c56
            try clear c57
            try clear c59
            try clear c61
            try clear c62
            try clear c64
            try clear hcz10_0
            try clear hcz10_1
            try clear hcz10_2
            try clear hcz16_0
            try clear hcz16_1
            try clear hcz16_2
            try clear hcz24_0
            try clear hcz24_1
            try clear hcz24_2
            try clear hcz28_0
            try clear hcz28_1
            try clear hcz28_2
            try clear hcz29_0
            try clear hcz29_1
            try clear hcz29_2
            try clear hcz34_0
            try clear hcz34_1
            try clear hcz34_2
            try clear hcz40_0
            try clear hcz40_1
            try clear hcz40_2
            try clear hcz48_0
            try clear hcz48_1
            try clear hcz48_2
            try clear hcz50_0
            try clear hcz50_1
            try clear hcz50_2
            try clear hcz53_0
            try clear hcz53_1
            try clear hcz53_2
            try clear hcz55_0
            try clear hcz55_1
            try clear hcz55_2
            try clear hcz58_0
            try clear hcz58_1
            try clear hcz58_2
            try clear hcz60_0
            try clear hcz60_1
            try clear hcz60_2
            try clear hcz63_0
            try clear hcz63_1
            try clear hcz63_2
            try clear hcz65_0
            try clear hcz65_1
            try clear hcz65_2
            try clear hcz6_0
            try clear hcz6_1
            try clear hcz6_2
            try clear hfz10_0
            try clear hfz10_1
            try clear hfz10_2
            try clear hfz16_0
            try clear hfz16_1
            try clear hfz16_2
            try clear hfz24_0
            try clear hfz24_1
            try clear hfz24_2
            try clear hfz28_0
            try clear hfz28_1
            try clear hfz28_2
            try clear hfz29_0
            try clear hfz29_1
            try clear hfz29_2
            try clear hfz34_0
            try clear hfz34_1
            try clear hfz34_2
            try clear hfz40_0
            try clear hfz40_1
            try clear hfz40_2
            try clear hfz48_0
            try clear hfz48_1
            try clear hfz48_2
            try clear hfz50_0
            try clear hfz50_1
            try clear hfz50_2
            try clear hfz53_0
            try clear hfz53_1
            try clear hfz53_2
            try clear hfz55_0
            try clear hfz55_1
            try clear hfz55_2
            try clear hfz58_0
            try clear hfz58_1
            try clear hfz58_2
            try clear hfz60_0
            try clear hfz60_1
            try clear hfz60_2
            try clear hfz63_0
            try clear hfz63_1
            try clear hfz63_2
            try clear hfz65_0
            try clear hfz65_1
            try clear hfz65_2
            try clear hfz6_0
            try clear hfz6_1
            try clear hfz6_2
            try clear hx375_0
            try clear hx375_1
            try clear hx375_2
            try clear p2
            try clear p3
            try clear p375
            try clear q3
            try clear q375
            obtain ⟨kq, x49_31, rfl, HA, HJ31, BK364, BK368, BK383, HB⟩ := hcut
            cases kq with
            | zero => exact absurd HA.out (by simp [tacticianlaw01_ValueBack.j2])
            | succ kj31 =>
              have H := HA.out
              clear HA
              simp only [tacticianlaw01_ValueBack.j2] at H
              by_cases c66 : x49_31 = true
              · subst c66
                have H1 : (some false) = some r := by rw [if_pos rfl] at H; exact H
                clear H
                have H := H1
                clear H1
                exact absurd ((Option.some.inj H).trans hr_.out) (by decide)
              · replace c66 := Bool.eq_false_iff.mpr c66
                subst c66
                have H1 : (if 0 ≤ (mn (a1.size : Int) 450) then (if (mn (a1.size : Int) 450) ≤ (a1.size : Int) then ((value_Parse.f (a1.extract 0 ((mn (a1.size : Int) 450) : Int).toNat)).bind fun bt384 => (if bt384.2.2.2 = 0 then ((value_String.f bt384.1 bt384.2.1 bt384.2.2.1).bind fun bt389 => (if bt389.2 = 0 then (if bt389.1.toList = (a1.extract 0 ((mn (a1.size : Int) 450) : Int).toNat).toList then ((value_Check.f bt384.1 bt384.2.1 bt384.2.2.1).bind fun t391 => (if t391 = 0 then ((tacticianlaw01_awake.f).bind fun t392 => (some t392)) else (some false))) else (some false)) else (some false))) else (if bt384.1 = 0 then (if bt384.2.1 = 0 then (if bt384.2.2.1.toList = ([] : List UInt8) then ((tacticianlaw01_awake.f).bind fun t393 => (some t393)) else (some false)) else (some false)) else (some false)))) else (none)) else (none)) = some r := by rw [if_neg (show ¬ (false = true) by decide)] at H; exact H
                clear H
                have H := H1
                clear H1
                obtain ⟨ji67, hji67⟩ : ∃ j_ : Int, (mn (a1.size : Int) 450) = j_ := ⟨_, rfl⟩
                replace H : (if 0 ≤ (ji67) then (if (ji67) ≤ (a1.size : Int) then ((value_Parse.f (a1.extract 0 ((ji67) : Int).toNat)).bind fun bt384 => (if bt384.2.2.2 = 0 then ((value_String.f bt384.1 bt384.2.1 bt384.2.2.1).bind fun bt389 => (if bt389.2 = 0 then (if bt389.1.toList = (a1.extract 0 ((ji67) : Int).toNat).toList then ((value_Check.f bt384.1 bt384.2.1 bt384.2.2.1).bind fun t391 => (if t391 = 0 then ((tacticianlaw01_awake.f).bind fun t392 => (some t392)) else (some false))) else (some false)) else (some false))) else (if bt384.1 = 0 then (if bt384.2.1 = 0 then (if bt384.2.2.1.toList = ([] : List UInt8) then ((tacticianlaw01_awake.f).bind fun t393 => (some t393)) else (some false)) else (some false)) else (some false)))) else (none)) else (none)) = some r := by first | (rw [hji67] at H; exact H) | (simp only [hji67] at H ⊢; exact H)
                have hji67_ : (if 450 < (a1.size : Int) then 450 else (a1.size : Int)) = ji67 := hji67
                by_cases c68 : 0 ≤ (ji67)
                · rw [if_pos c68] at H
                  have c68b0 := eq_true c68
                  have c68b1 : decide (0 ≤ (ji67)) = true := decide_eq_true c68
                  clear c68
                  by_cases c69 : (ji67) ≤ (a1.size : Int)
                  · rw [if_pos c69] at H
                    have c69b0 := eq_true c69
                    have c69b1 : decide ((ji67) ≤ (a1.size : Int)) = true := decide_eq_true c69
                    clear c69
                    replace H := Option.bind_eq_some_iff.mp H
                    obtain ⟨⟨t384, t385, t386, t387⟩, A700, H⟩ := H
                    replace H : (if t387 = 0 then ((value_String.f t384 t385 t386).bind fun bt389 => (if bt389.2 = 0 then (if bt389.1.toList = (a1.extract 0 ((ji67) : Int).toNat).toList then ((value_Check.f t384 t385 t386).bind fun t391 => (if t391 = 0 then ((tacticianlaw01_awake.f).bind fun t392 => (some t392)) else (some false))) else (some false)) else (some false))) else (if t384 = 0 then (if t385 = 0 then (if t386.toList = ([] : List UInt8) then ((tacticianlaw01_awake.f).bind fun t393 => (some t393)) else (some false)) else (some false)) else (some false))) = some r := H
                    have A70 := Aside0.mk A700
                    clear A700
                    by_cases c71 : t387 = 0
                    · rw [if_pos c71] at H
                      have c71b0 : (t387 == 0) = true := beq_iff_eq.mpr c71
                      have c71b1 : (t387 != 0) = false := bne_eq_false_iff_eq.mpr c71
                      clear c71
                      replace H := Option.bind_eq_some_iff.mp H
                      obtain ⟨⟨t389, t390⟩, A720, H⟩ := H
                      replace H : (if t390 = 0 then (if t389.toList = (a1.extract 0 ((ji67) : Int).toNat).toList then ((value_Check.f t384 t385 t386).bind fun t391 => (if t391 = 0 then ((tacticianlaw01_awake.f).bind fun t392 => (some t392)) else (some false))) else (some false)) else (some false)) = some r := H
                      have A72 := Aside0.mk A720
                      clear A720
                      by_cases c73 : t390 = 0
                      · rw [if_pos c73] at H
                        have c73b0 : (t390 == 0) = true := beq_iff_eq.mpr c73
                        have c73b1 : (t390 != 0) = false := bne_eq_false_iff_eq.mpr c73
                        clear c73
                        by_cases c74 : t389.toList = (a1.extract 0 ((ji67) : Int).toNat).toList
                        · rw [if_pos c74] at H
                          have c74b0 : (t389.toList == (a1.extract 0 ((ji67) : Int).toNat).toList) = true := beq_iff_eq.mpr c74
                          have c74b1 : (t389.toList != (a1.extract 0 ((ji67) : Int).toNat).toList) = false := bne_eq_false_iff_eq.mpr c74
                          clear c74
                          replace H := Option.bind_eq_some_iff.mp H
                          obtain ⟨t391, A750, H⟩ := H
                          replace H : (if t391 = 0 then ((tacticianlaw01_awake.f).bind fun t392 => (some t392)) else (some false)) = some r := H
                          have A75 := Aside0.mk A750
                          clear A750
                          by_cases c76 : t391 = 0
                          · rw [if_pos c76] at H
                            have c76b0 : (t391 == 0) = true := beq_iff_eq.mpr c76
                            have c76b1 : (t391 != 0) = false := bne_eq_false_iff_eq.mpr c76
                            clear c76
                            replace H := Option.bind_eq_some_iff.mp H
                            obtain ⟨t392, A770, H⟩ := H
                            replace H : (some t392) = some r := H
                            have A77 := Aside0.mk A770
                            clear A770
                            obtain rfl := Option.some.inj H
                            go_wp2_with (first | ((with_reducible refine gate_callee (f := 7) rfl ?_); refine goesL_ (some 57) rfl rfl Tryd.func7 (by kernel_rfl) rfl #[.string (a1.extract 0 ((ji67) : Int).toNat)] rfl (by (try simp only [List.map_toArray, List.map_cons, List.map_nil]); first | done | (simp only [hji67]; rfl) | rfl | (simp only [List.length_drop, List.length_take]; rfl)) ?_; (with_reducible refine (value_Parse.calls (a1.extract 0 ((ji67) : Int).toNat) t384 t385 t386 t387 _ ?side1 A70.out).mono ?_); (case side1 => exact Laid.below HLD.out (by repeat (first | (with_reducible first | exact HB.out | apply yA | apply yN | apply yD | refine below_set ?_ GE364.out | refine below_set ?_ GE368.out | refine below_set ?_ GE383.out) | exact HB.out))); rintro e w78 ⟨rfl, hb⟩; refine ⟨_, rfl, ?_⟩; have n0_ := Aside0.mk (blk_below (g := gb364) (o := .cells #[.int .i64 a0_0, .int .i64 a0_1, .string a0_2] 25 (0, 0)) (by (with_reducible repeat (first | refine zN ?_ _ | refine zD ?_ | refine zA ?_ _)); exact BK364.out) hb); have n1_ := Aside0.mk (blk_below (g := gb368) (o := .cells #[.int .i64 x369000_24, .int .i64 x369001_24, .string x369002_24] 25 (0, 0)) (by (with_reducible repeat (first | refine zN ?_ _ | refine zD ?_ | refine zA ?_ _)); exact BK368.out) hb); have n2_ := Aside0.mk (blk_below (g := gb383) (o := .cells #[.int .i64 t379, .int .i64 t380, .string t381] 25 (0, 0)) (by (with_reducible repeat (first | refine zN ?_ _ | refine zD ?_ | refine zA ?_ _)); exact BK383.out) hb); have n3_ := Aside0.mk (below_step (by repeat (first | (with_reducible first | exact HB.out | apply yA | apply yN | apply yD | refine below_set ?_ GE364.out | refine below_set ?_ GE368.out | refine below_set ?_ GE383.out) | exact HB.out)) hb); clear BK364; clear BK368; clear BK383; clear HB; have BK364 := n0_; have BK368 := n1_; have BK383 := n2_; have HB := n3_; clear n0_ n1_ n2_ n3_; (try clear hb); (try clear hb2); (try clear hk); (try clear hi)) | ((with_reducible refine gate_dst (N := 11) rfl ?_); (try (refine gate_guard (by rfl) ?_; dsimp only)); refine box_event ?hg (N := 11) ?hd (cs := #[.int .i64 0, .int .i64 0, .string (⟨#[]⟩ : ByteArray)]) (t := 25) ?hr ?_; (case hd => rfl); (case hg => rfl); (case hr => first | (go_simp; done) | (go_simp; rfl)); intro gb388 hg w79 hbox hb; have n0_ := Aside0.mk (blk_below (g := gb364) (o := .cells #[.int .i64 a0_0, .int .i64 a0_1, .string a0_2] 25 (0, 0)) (by (with_reducible repeat (first | refine zN ?_ _ | refine zD ?_ | refine zA ?_ _)); exact BK364.out) hb); have n1_ := Aside0.mk (blk_below (g := gb368) (o := .cells #[.int .i64 x369000_24, .int .i64 x369001_24, .string x369002_24] 25 (0, 0)) (by (with_reducible repeat (first | refine zN ?_ _ | refine zD ?_ | refine zA ?_ _)); exact BK368.out) hb); have n2_ := Aside0.mk (blk_below (g := gb383) (o := .cells #[.int .i64 t379, .int .i64 t380, .string t381] 25 (0, 0)) (by (with_reducible repeat (first | refine zN ?_ _ | refine zD ?_ | refine zA ?_ _)); exact BK383.out) hb); have n3_ := Aside0.mk (below_step (by repeat (first | (with_reducible first | exact HB.out | apply yA | apply yN | apply yD | refine below_set ?_ GE364.out | refine below_set ?_ GE368.out | refine below_set ?_ GE383.out) | exact HB.out)) hb); have n4_ := Aside0.mk (hbox); have n5_ := Aside0.mk ((by rw [hg]; exact (below_size (by repeat (first | (with_reducible first | exact HB.out | apply yA | apply yN | apply yD | refine below_set ?_ GE364.out | refine below_set ?_ GE368.out | refine below_set ?_ GE383.out) | exact HB.out))) : w.heap.size ≤ gb388)); have n6_ := Aside0.mk ((by rw [hg]; exact (below_size (by repeat (first | (with_reducible first | exact HB.out | apply yA | apply yN | apply yD | refine below_set ?_ GE364.out | refine below_set ?_ GE368.out | refine below_set ?_ GE383.out) | exact HB.out))) : w.heap.size ≤ gb388)); have n7_ := Aside0.mk ((by rw [hg]; exact Nat.ne_of_lt (blk_lt (g := gb364) (o := .cells #[.int .i64 a0_0, .int .i64 a0_1, .string a0_2] 25 (0, 0)) (by (with_reducible repeat (first | refine zN ?_ _ | refine zD ?_ | refine zA ?_ _)); exact BK364.out)) : gb364 ≠ gb388)); have n8_ := Aside0.mk ((by rw [hg]; exact Nat.ne_of_gt (blk_lt (g := gb364) (o := .cells #[.int .i64 a0_0, .int .i64 a0_1, .string a0_2] 25 (0, 0)) (by (with_reducible repeat (first | refine zN ?_ _ | refine zD ?_ | refine zA ?_ _)); exact BK364.out)) : gb388 ≠ gb364)); have n9_ := Aside0.mk ((by rw [hg]; exact Nat.ne_of_lt (blk_lt (g := gb368) (o := .cells #[.int .i64 x369000_24, .int .i64 x369001_24, .string x369002_24] 25 (0, 0)) (by (with_reducible repeat (first | refine zN ?_ _ | refine zD ?_ | refine zA ?_ _)); exact BK368.out)) : gb368 ≠ gb388)); have n10_ := Aside0.mk ((by rw [hg]; exact Nat.ne_of_gt (blk_lt (g := gb368) (o := .cells #[.int .i64 x369000_24, .int .i64 x369001_24, .string x369002_24] 25 (0, 0)) (by (with_reducible repeat (first | refine zN ?_ _ | refine zD ?_ | refine zA ?_ _)); exact BK368.out)) : gb388 ≠ gb368)); have n11_ := Aside0.mk ((by rw [hg]; exact Nat.ne_of_lt (blk_lt (g := gb383) (o := .cells #[.int .i64 t379, .int .i64 t380, .string t381] 25 (0, 0)) (by (with_reducible repeat (first | refine zN ?_ _ | refine zD ?_ | refine zA ?_ _)); exact BK383.out)) : gb383 ≠ gb388)); have n12_ := Aside0.mk ((by rw [hg]; exact Nat.ne_of_gt (blk_lt (g := gb383) (o := .cells #[.int .i64 t379, .int .i64 t380, .string t381] 25 (0, 0)) (by (with_reducible repeat (first | refine zN ?_ _ | refine zD ?_ | refine zA ?_ _)); exact BK383.out)) : gb388 ≠ gb383)); clear BK364; clear BK368; clear BK383; clear HB; have BK364 := n0_; have BK368 := n1_; have BK383 := n2_; have HB := n3_; have BK388 := n4_; have GW388 := n5_; have GE388 := n6_; have NB364_388 := n7_; have NB388_364 := n8_; have NB368_388 := n9_; have NB388_368 := n10_; have NB383_388 := n11_; have NB388_383 := n12_; clear n0_ n1_ n2_ n3_ n4_ n5_ n6_ n7_ n8_ n9_ n10_ n11_ n12_; clear hb hbox hg; have hnb80 := NB388_364.out; have hnc80 := NB364_388.out; have hnb81 := NB388_368.out; have hnc81 := NB368_388.out; have hnb82 := NB388_383.out; have hnc82 := NB383_388.out; have hcz83_0 : w79.cell? ⟨gb388, 0, none⟩ = some (.int .i64 0) := (blk_cell BK388.out 0).trans rfl; have hcz83_1 : w79.cell? ⟨gb388, 1, none⟩ = some (.int .i64 0) := (blk_cell BK388.out 1).trans rfl; have hcz83_2 : w79.cell? ⟨gb388, 2, none⟩ = some (.string (⟨#[]⟩ : ByteArray)) := (blk_cell BK388.out 2).trans rfl; have hfz83_0 := blk_frozen BK388.out 0; have hfz83_1 := blk_frozen BK388.out 1; have hfz83_2 := blk_frozen BK388.out 2) | ((with_reducible refine gate_callee (f := 13) rfl ?_); refine goesL_ (some 70) rfl rfl Tryd.func13 (by kernel_rfl) rfl #[.agg #[.int .i64 t384, .int .i64 t385, .string t386]] rfl (by (try simp only [List.map_toArray, List.map_cons, List.map_nil]); first | done | rfl | (simp only [List.length_drop, List.length_take]; rfl)) ?_; (with_reducible refine (value_String.calls t384 t385 t386 t389 t390 _ ?side1 A72.out).mono ?_); (case side1 => exact Laid.below HLD.out (by repeat (first | (with_reducible first | exact HB.out | apply yA | apply yN | apply yD | refine below_set ?_ GE364.out | refine below_set ?_ GE368.out | refine below_set ?_ GE383.out | refine below_set ?_ GE388.out) | exact HB.out))); rintro e w84 ⟨rfl, hb⟩; refine ⟨_, rfl, ?_⟩; have n0_ := Aside0.mk (blk_below (g := gb364) (o := .cells #[.int .i64 a0_0, .int .i64 a0_1, .string a0_2] 25 (0, 0)) (by (with_reducible repeat (first | refine zN ?_ _ | refine zD ?_ | refine zA ?_ _)); refine blk_far ?_ NB364_388.out _; (with_reducible repeat (first | refine zN ?_ _ | refine zD ?_ | refine zA ?_ _)); refine blk_far ?_ NB364_388.out _; (with_reducible repeat (first | refine zN ?_ _ | refine zD ?_ | refine zA ?_ _)); refine blk_far ?_ NB364_388.out _; (with_reducible repeat (first | refine zN ?_ _ | refine zD ?_ | refine zA ?_ _)); exact BK364.out) hb); have n1_ := Aside0.mk (blk_below (g := gb368) (o := .cells #[.int .i64 x369000_24, .int .i64 x369001_24, .string x369002_24] 25 (0, 0)) (by (with_reducible repeat (first | refine zN ?_ _ | refine zD ?_ | refine zA ?_ _)); refine blk_far ?_ NB368_388.out _; (with_reducible repeat (first | refine zN ?_ _ | refine zD ?_ | refine zA ?_ _)); refine blk_far ?_ NB368_388.out _; (with_reducible repeat (first | refine zN ?_ _ | refine zD ?_ | refine zA ?_ _)); refine blk_far ?_ NB368_388.out _; (with_reducible repeat (first | refine zN ?_ _ | refine zD ?_ | refine zA ?_ _)); exact BK368.out) hb); have n2_ := Aside0.mk (blk_below (g := gb383) (o := .cells #[.int .i64 t379, .int .i64 t380, .string t381] 25 (0, 0)) (by (with_reducible repeat (first | refine zN ?_ _ | refine zD ?_ | refine zA ?_ _)); refine blk_far ?_ NB383_388.out _; (with_reducible repeat (first | refine zN ?_ _ | refine zD ?_ | refine zA ?_ _)); refine blk_far ?_ NB383_388.out _; (with_reducible repeat (first | refine zN ?_ _ | refine zD ?_ | refine zA ?_ _)); refine blk_far ?_ NB383_388.out _; (with_reducible repeat (first | refine zN ?_ _ | refine zD ?_ | refine zA ?_ _)); exact BK383.out) hb); have n3_ := Aside0.mk (blk_below (g := gb388) (o := .cells #[.int .i64 t384, .int .i64 t385, .string t386] 25 (0, 0)) (by (with_reducible repeat (first | refine zN ?_ _ | refine zD ?_ | refine zA ?_ _)); refine blk_put (cs := #[.int .i64 t384, .int .i64 t385, .string (⟨#[]⟩ : ByteArray)]) ?_ 2 _ rfl; (with_reducible repeat (first | refine zN ?_ _ | refine zD ?_ | refine zA ?_ _)); refine blk_put (cs := #[.int .i64 t384, .int .i64 0, .string (⟨#[]⟩ : ByteArray)]) ?_ 1 _ rfl; (with_reducible repeat (first | refine zN ?_ _ | refine zD ?_ | refine zA ?_ _)); refine blk_put (cs := #[.int .i64 0, .int .i64 0, .string (⟨#[]⟩ : ByteArray)]) ?_ 0 _ rfl; (with_reducible repeat (first | refine zN ?_ _ | refine zD ?_ | refine zA ?_ _)); exact BK388.out) hb); have n4_ := Aside0.mk (below_step (by repeat (first | (with_reducible first | exact HB.out | apply yA | apply yN | apply yD | refine below_set ?_ GE364.out | refine below_set ?_ GE368.out | refine below_set ?_ GE383.out | refine below_set ?_ GE388.out) | exact HB.out)) hb); clear BK364; clear BK368; clear BK383; clear BK388; clear HB; have BK364 := n0_; have BK368 := n1_; have BK383 := n2_; have BK388 := n3_; have HB := n4_; clear n0_ n1_ n2_ n3_ n4_; (try clear hb); (try clear hb2); (try clear hk); (try clear hi); have hcz85_0 : w84.cell? ⟨gb388, 0, none⟩ = some (.int .i64 t384) := (blk_cell BK388.out 0).trans rfl; have hcz85_1 : w84.cell? ⟨gb388, 1, none⟩ = some (.int .i64 t385) := (blk_cell BK388.out 1).trans rfl; have hcz85_2 : w84.cell? ⟨gb388, 2, none⟩ = some (.string t386) := (blk_cell BK388.out 2).trans rfl; have hfz85_0 := blk_frozen BK388.out 0; have hfz85_1 := blk_frozen BK388.out 1; have hfz85_2 := blk_frozen BK388.out 2) | (go_at_call 14; (with_reducible refine (value_Check.calls t384 t385 t386 t391 _ A75.out).mono ?_); rintro e w86 ⟨rfl, hb⟩; have n0_ := Aside0.mk (blk_below (g := gb364) (o := .cells #[.int .i64 a0_0, .int .i64 a0_1, .string a0_2] 25 (0, 0)) (by (with_reducible repeat (first | refine zN ?_ _ | refine zD ?_ | refine zA ?_ _)); exact BK364.out) hb); have n1_ := Aside0.mk (blk_below (g := gb368) (o := .cells #[.int .i64 x369000_24, .int .i64 x369001_24, .string x369002_24] 25 (0, 0)) (by (with_reducible repeat (first | refine zN ?_ _ | refine zD ?_ | refine zA ?_ _)); exact BK368.out) hb); have n2_ := Aside0.mk (blk_below (g := gb383) (o := .cells #[.int .i64 t379, .int .i64 t380, .string t381] 25 (0, 0)) (by (with_reducible repeat (first | refine zN ?_ _ | refine zD ?_ | refine zA ?_ _)); exact BK383.out) hb); have n3_ := Aside0.mk (blk_below (g := gb388) (o := .cells #[.int .i64 t384, .int .i64 t385, .string t386] 25 (0, 0)) (by (with_reducible repeat (first | refine zN ?_ _ | refine zD ?_ | refine zA ?_ _)); exact BK388.out) hb); have n4_ := Aside0.mk (below_step (by repeat (first | (with_reducible first | exact HB.out | apply yA | apply yN | apply yD | refine below_set ?_ GE364.out | refine below_set ?_ GE368.out | refine below_set ?_ GE383.out | refine below_set ?_ GE388.out) | exact HB.out)) hb); clear BK364; clear BK368; clear BK383; clear BK388; clear HB; have BK364 := n0_; have BK368 := n1_; have BK383 := n2_; have BK388 := n3_; have HB := n4_; clear n0_ n1_ n2_ n3_ n4_; (try clear hb); (try clear hb2); (try clear hk); (try clear hi)) | (go_at_call 8; (with_reducible refine (tacticianlaw01_awake.calls  t392 _ ?side1 A77.out).mono ?_); (case side1 => exact Laid.below HLD.out (by repeat (first | (with_reducible first | exact HB.out | apply yA | apply yN | apply yD | refine below_set ?_ GE364.out | refine below_set ?_ GE368.out | refine below_set ?_ GE383.out | refine below_set ?_ GE388.out) | exact HB.out))); rintro e w87 ⟨rfl, hb⟩; have n0_ := Aside0.mk (blk_below (g := gb364) (o := .cells #[.int .i64 a0_0, .int .i64 a0_1, .string a0_2] 25 (0, 0)) (by (with_reducible repeat (first | refine zN ?_ _ | refine zD ?_ | refine zA ?_ _)); exact BK364.out) hb); have n1_ := Aside0.mk (blk_below (g := gb368) (o := .cells #[.int .i64 x369000_24, .int .i64 x369001_24, .string x369002_24] 25 (0, 0)) (by (with_reducible repeat (first | refine zN ?_ _ | refine zD ?_ | refine zA ?_ _)); exact BK368.out) hb); have n2_ := Aside0.mk (blk_below (g := gb383) (o := .cells #[.int .i64 t379, .int .i64 t380, .string t381] 25 (0, 0)) (by (with_reducible repeat (first | refine zN ?_ _ | refine zD ?_ | refine zA ?_ _)); exact BK383.out) hb); have n3_ := Aside0.mk (blk_below (g := gb388) (o := .cells #[.int .i64 t384, .int .i64 t385, .string t386] 25 (0, 0)) (by (with_reducible repeat (first | refine zN ?_ _ | refine zD ?_ | refine zA ?_ _)); exact BK388.out) hb); have n4_ := Aside0.mk (below_step (by repeat (first | (with_reducible first | exact HB.out | apply yA | apply yN | apply yD | refine below_set ?_ GE364.out | refine below_set ?_ GE368.out | refine below_set ?_ GE383.out | refine below_set ?_ GE388.out) | exact HB.out)) hb); clear BK364; clear BK368; clear BK383; clear BK388; clear HB; have BK364 := n0_; have BK368 := n1_; have BK383 := n2_; have BK388 := n3_; have HB := n4_; clear n0_ n1_ n2_ n3_ n4_; (try clear hb); (try clear hb2); (try clear hk); (try clear hi)))
                            go_ret
                            exact ⟨by first | rfl | (simp [errW_none, errW_some] <;> rfl) | (simp only [← hji67]; first | rfl | (simp [errW_none, errW_some] <;> rfl)) | (simp [*, errW_none, errW_some] <;> rfl), by repeat (first | (with_reducible first | exact HB.out | apply yA | apply yN | apply yD | refine below_set ?_ GE364.out | refine below_set ?_ GE368.out | refine below_set ?_ GE383.out | refine below_set ?_ GE388.out) | exact HB.out)⟩
                          · rw [if_neg c76] at H
                            have c76b0 : (t391 == 0) = false := beq_eq_false_iff_ne.mpr c76
                            have c76b1 : (t391 != 0) = true := bne_iff_ne.mpr c76
                            exact absurd ((Option.some.inj H).trans hr_.out) (by decide)
                        · rw [if_neg c74] at H
                          have c74b0 : (t389.toList == (a1.extract 0 ((ji67) : Int).toNat).toList) = false := beq_eq_false_iff_ne.mpr c74
                          have c74b1 : (t389.toList != (a1.extract 0 ((ji67) : Int).toNat).toList) = true := bne_iff_ne.mpr c74
                          exact absurd ((Option.some.inj H).trans hr_.out) (by decide)
                      · rw [if_neg c73] at H
                        have c73b0 : (t390 == 0) = false := beq_eq_false_iff_ne.mpr c73
                        have c73b1 : (t390 != 0) = true := bne_iff_ne.mpr c73
                        exact absurd ((Option.some.inj H).trans hr_.out) (by decide)
                    · rw [if_neg c71] at H
                      have c71b0 : (t387 == 0) = false := beq_eq_false_iff_ne.mpr c71
                      have c71b1 : (t387 != 0) = true := bne_iff_ne.mpr c71
                      by_cases c88 : t384 = 0
                      · rw [if_pos c88] at H
                        have c88b0 : (t384 == 0) = true := beq_iff_eq.mpr c88
                        have c88b1 : (t384 != 0) = false := bne_eq_false_iff_eq.mpr c88
                        clear c88
                        by_cases c89 : t385 = 0
                        · rw [if_pos c89] at H
                          have c89b0 : (t385 == 0) = true := beq_iff_eq.mpr c89
                          have c89b1 : (t385 != 0) = false := bne_eq_false_iff_eq.mpr c89
                          clear c89
                          by_cases c90 : t386.toList = ([] : List UInt8)
                          · rw [if_pos c90] at H
                            have c90b0 : (t386.toList == ([] : List UInt8)) = true := beq_iff_eq.mpr c90
                            have c90b1 : (t386.toList != ([] : List UInt8)) = false := bne_eq_false_iff_eq.mpr c90
                            clear c90
                            replace H := Option.bind_eq_some_iff.mp H
                            obtain ⟨t393, A910, H⟩ := H
                            replace H : (some t393) = some r := H
                            have A91 := Aside0.mk A910
                            clear A910
                            obtain rfl := Option.some.inj H
                            go_wp2_with (first | ((with_reducible refine gate_callee (f := 7) rfl ?_); refine goesL_ (some 57) rfl rfl Tryd.func7 (by kernel_rfl) rfl #[.string (a1.extract 0 ((ji67) : Int).toNat)] rfl (by (try simp only [List.map_toArray, List.map_cons, List.map_nil]); first | done | (simp only [hji67]; rfl) | rfl | (simp only [List.length_drop, List.length_take]; rfl)) ?_; (with_reducible refine (value_Parse.calls (a1.extract 0 ((ji67) : Int).toNat) t384 t385 t386 t387 _ ?side1 A70.out).mono ?_); (case side1 => exact Laid.below HLD.out (by repeat (first | (with_reducible first | exact HB.out | apply yA | apply yN | apply yD | refine below_set ?_ GE364.out | refine below_set ?_ GE368.out | refine below_set ?_ GE383.out) | exact HB.out))); rintro e w92 ⟨rfl, hb⟩; refine ⟨_, rfl, ?_⟩; have n0_ := Aside0.mk (blk_below (g := gb364) (o := .cells #[.int .i64 a0_0, .int .i64 a0_1, .string a0_2] 25 (0, 0)) (by (with_reducible repeat (first | refine zN ?_ _ | refine zD ?_ | refine zA ?_ _)); exact BK364.out) hb); have n1_ := Aside0.mk (blk_below (g := gb368) (o := .cells #[.int .i64 x369000_24, .int .i64 x369001_24, .string x369002_24] 25 (0, 0)) (by (with_reducible repeat (first | refine zN ?_ _ | refine zD ?_ | refine zA ?_ _)); exact BK368.out) hb); have n2_ := Aside0.mk (blk_below (g := gb383) (o := .cells #[.int .i64 t379, .int .i64 t380, .string t381] 25 (0, 0)) (by (with_reducible repeat (first | refine zN ?_ _ | refine zD ?_ | refine zA ?_ _)); exact BK383.out) hb); have n3_ := Aside0.mk (below_step (by repeat (first | (with_reducible first | exact HB.out | apply yA | apply yN | apply yD | refine below_set ?_ GE364.out | refine below_set ?_ GE368.out | refine below_set ?_ GE383.out) | exact HB.out)) hb); clear BK364; clear BK368; clear BK383; clear HB; have BK364 := n0_; have BK368 := n1_; have BK383 := n2_; have HB := n3_; clear n0_ n1_ n2_ n3_; (try clear hb); (try clear hb2); (try clear hk); (try clear hi)) | ((with_reducible refine gate_dst (N := 11) rfl ?_); (try (refine gate_guard (by rfl) ?_; dsimp only)); refine box_event ?hg (N := 11) ?hd (cs := #[.int .i64 0, .int .i64 0, .string (⟨#[]⟩ : ByteArray)]) (t := 25) ?hr ?_; (case hd => rfl); (case hg => rfl); (case hr => first | (go_simp; done) | (go_simp; rfl)); intro gb388 hg w93 hbox hb; have n0_ := Aside0.mk (blk_below (g := gb364) (o := .cells #[.int .i64 a0_0, .int .i64 a0_1, .string a0_2] 25 (0, 0)) (by (with_reducible repeat (first | refine zN ?_ _ | refine zD ?_ | refine zA ?_ _)); exact BK364.out) hb); have n1_ := Aside0.mk (blk_below (g := gb368) (o := .cells #[.int .i64 x369000_24, .int .i64 x369001_24, .string x369002_24] 25 (0, 0)) (by (with_reducible repeat (first | refine zN ?_ _ | refine zD ?_ | refine zA ?_ _)); exact BK368.out) hb); have n2_ := Aside0.mk (blk_below (g := gb383) (o := .cells #[.int .i64 t379, .int .i64 t380, .string t381] 25 (0, 0)) (by (with_reducible repeat (first | refine zN ?_ _ | refine zD ?_ | refine zA ?_ _)); exact BK383.out) hb); have n3_ := Aside0.mk (below_step (by repeat (first | (with_reducible first | exact HB.out | apply yA | apply yN | apply yD | refine below_set ?_ GE364.out | refine below_set ?_ GE368.out | refine below_set ?_ GE383.out) | exact HB.out)) hb); have n4_ := Aside0.mk (hbox); have n5_ := Aside0.mk ((by rw [hg]; exact (below_size (by repeat (first | (with_reducible first | exact HB.out | apply yA | apply yN | apply yD | refine below_set ?_ GE364.out | refine below_set ?_ GE368.out | refine below_set ?_ GE383.out) | exact HB.out))) : w.heap.size ≤ gb388)); have n6_ := Aside0.mk ((by rw [hg]; exact (below_size (by repeat (first | (with_reducible first | exact HB.out | apply yA | apply yN | apply yD | refine below_set ?_ GE364.out | refine below_set ?_ GE368.out | refine below_set ?_ GE383.out) | exact HB.out))) : w.heap.size ≤ gb388)); have n7_ := Aside0.mk ((by rw [hg]; exact Nat.ne_of_lt (blk_lt (g := gb364) (o := .cells #[.int .i64 a0_0, .int .i64 a0_1, .string a0_2] 25 (0, 0)) (by (with_reducible repeat (first | refine zN ?_ _ | refine zD ?_ | refine zA ?_ _)); exact BK364.out)) : gb364 ≠ gb388)); have n8_ := Aside0.mk ((by rw [hg]; exact Nat.ne_of_gt (blk_lt (g := gb364) (o := .cells #[.int .i64 a0_0, .int .i64 a0_1, .string a0_2] 25 (0, 0)) (by (with_reducible repeat (first | refine zN ?_ _ | refine zD ?_ | refine zA ?_ _)); exact BK364.out)) : gb388 ≠ gb364)); have n9_ := Aside0.mk ((by rw [hg]; exact Nat.ne_of_lt (blk_lt (g := gb368) (o := .cells #[.int .i64 x369000_24, .int .i64 x369001_24, .string x369002_24] 25 (0, 0)) (by (with_reducible repeat (first | refine zN ?_ _ | refine zD ?_ | refine zA ?_ _)); exact BK368.out)) : gb368 ≠ gb388)); have n10_ := Aside0.mk ((by rw [hg]; exact Nat.ne_of_gt (blk_lt (g := gb368) (o := .cells #[.int .i64 x369000_24, .int .i64 x369001_24, .string x369002_24] 25 (0, 0)) (by (with_reducible repeat (first | refine zN ?_ _ | refine zD ?_ | refine zA ?_ _)); exact BK368.out)) : gb388 ≠ gb368)); have n11_ := Aside0.mk ((by rw [hg]; exact Nat.ne_of_lt (blk_lt (g := gb383) (o := .cells #[.int .i64 t379, .int .i64 t380, .string t381] 25 (0, 0)) (by (with_reducible repeat (first | refine zN ?_ _ | refine zD ?_ | refine zA ?_ _)); exact BK383.out)) : gb383 ≠ gb388)); have n12_ := Aside0.mk ((by rw [hg]; exact Nat.ne_of_gt (blk_lt (g := gb383) (o := .cells #[.int .i64 t379, .int .i64 t380, .string t381] 25 (0, 0)) (by (with_reducible repeat (first | refine zN ?_ _ | refine zD ?_ | refine zA ?_ _)); exact BK383.out)) : gb388 ≠ gb383)); clear BK364; clear BK368; clear BK383; clear HB; have BK364 := n0_; have BK368 := n1_; have BK383 := n2_; have HB := n3_; have BK388 := n4_; have GW388 := n5_; have GE388 := n6_; have NB364_388 := n7_; have NB388_364 := n8_; have NB368_388 := n9_; have NB388_368 := n10_; have NB383_388 := n11_; have NB388_383 := n12_; clear n0_ n1_ n2_ n3_ n4_ n5_ n6_ n7_ n8_ n9_ n10_ n11_ n12_; clear hb hbox hg; have hnb94 := NB388_364.out; have hnc94 := NB364_388.out; have hnb95 := NB388_368.out; have hnc95 := NB368_388.out; have hnb96 := NB388_383.out; have hnc96 := NB383_388.out; have hcz97_0 : w93.cell? ⟨gb388, 0, none⟩ = some (.int .i64 0) := (blk_cell BK388.out 0).trans rfl; have hcz97_1 : w93.cell? ⟨gb388, 1, none⟩ = some (.int .i64 0) := (blk_cell BK388.out 1).trans rfl; have hcz97_2 : w93.cell? ⟨gb388, 2, none⟩ = some (.string (⟨#[]⟩ : ByteArray)) := (blk_cell BK388.out 2).trans rfl; have hfz97_0 := blk_frozen BK388.out 0; have hfz97_1 := blk_frozen BK388.out 1; have hfz97_2 := blk_frozen BK388.out 2) | (go_at_call 8; (with_reducible refine (tacticianlaw01_awake.calls  t393 _ ?side1 A91.out).mono ?_); (case side1 => exact Laid.below HLD.out (by repeat (first | (with_reducible first | exact HB.out | apply yA | apply yN | apply yD | refine below_set ?_ GE364.out | refine below_set ?_ GE368.out | refine below_set ?_ GE383.out | refine below_set ?_ GE388.out) | exact HB.out))); rintro e w98 ⟨rfl, hb⟩; have n0_ := Aside0.mk (blk_below (g := gb364) (o := .cells #[.int .i64 a0_0, .int .i64 a0_1, .string a0_2] 25 (0, 0)) (by (with_reducible repeat (first | refine zN ?_ _ | refine zD ?_ | refine zA ?_ _)); refine blk_far ?_ NB364_388.out _; (with_reducible repeat (first | refine zN ?_ _ | refine zD ?_ | refine zA ?_ _)); refine blk_far ?_ NB364_388.out _; (with_reducible repeat (first | refine zN ?_ _ | refine zD ?_ | refine zA ?_ _)); refine blk_far ?_ NB364_388.out _; (with_reducible repeat (first | refine zN ?_ _ | refine zD ?_ | refine zA ?_ _)); exact BK364.out) hb); have n1_ := Aside0.mk (blk_below (g := gb368) (o := .cells #[.int .i64 x369000_24, .int .i64 x369001_24, .string x369002_24] 25 (0, 0)) (by (with_reducible repeat (first | refine zN ?_ _ | refine zD ?_ | refine zA ?_ _)); refine blk_far ?_ NB368_388.out _; (with_reducible repeat (first | refine zN ?_ _ | refine zD ?_ | refine zA ?_ _)); refine blk_far ?_ NB368_388.out _; (with_reducible repeat (first | refine zN ?_ _ | refine zD ?_ | refine zA ?_ _)); refine blk_far ?_ NB368_388.out _; (with_reducible repeat (first | refine zN ?_ _ | refine zD ?_ | refine zA ?_ _)); exact BK368.out) hb); have n2_ := Aside0.mk (blk_below (g := gb383) (o := .cells #[.int .i64 t379, .int .i64 t380, .string t381] 25 (0, 0)) (by (with_reducible repeat (first | refine zN ?_ _ | refine zD ?_ | refine zA ?_ _)); refine blk_far ?_ NB383_388.out _; (with_reducible repeat (first | refine zN ?_ _ | refine zD ?_ | refine zA ?_ _)); refine blk_far ?_ NB383_388.out _; (with_reducible repeat (first | refine zN ?_ _ | refine zD ?_ | refine zA ?_ _)); refine blk_far ?_ NB383_388.out _; (with_reducible repeat (first | refine zN ?_ _ | refine zD ?_ | refine zA ?_ _)); exact BK383.out) hb); have n3_ := Aside0.mk (blk_below (g := gb388) (o := .cells #[.int .i64 t384, .int .i64 t385, .string t386] 25 (0, 0)) (by (with_reducible repeat (first | refine zN ?_ _ | refine zD ?_ | refine zA ?_ _)); refine blk_put (cs := #[.int .i64 t384, .int .i64 t385, .string (⟨#[]⟩ : ByteArray)]) ?_ 2 _ rfl; (with_reducible repeat (first | refine zN ?_ _ | refine zD ?_ | refine zA ?_ _)); refine blk_put (cs := #[.int .i64 t384, .int .i64 0, .string (⟨#[]⟩ : ByteArray)]) ?_ 1 _ rfl; (with_reducible repeat (first | refine zN ?_ _ | refine zD ?_ | refine zA ?_ _)); refine blk_put (cs := #[.int .i64 0, .int .i64 0, .string (⟨#[]⟩ : ByteArray)]) ?_ 0 _ rfl; (with_reducible repeat (first | refine zN ?_ _ | refine zD ?_ | refine zA ?_ _)); exact BK388.out) hb); have n4_ := Aside0.mk (below_step (by repeat (first | (with_reducible first | exact HB.out | apply yA | apply yN | apply yD | refine below_set ?_ GE364.out | refine below_set ?_ GE368.out | refine below_set ?_ GE383.out | refine below_set ?_ GE388.out) | exact HB.out)) hb); clear BK364; clear BK368; clear BK383; clear BK388; clear HB; have BK364 := n0_; have BK368 := n1_; have BK383 := n2_; have BK388 := n3_; have HB := n4_; clear n0_ n1_ n2_ n3_ n4_; (try clear hb); (try clear hb2); (try clear hk); (try clear hi)))
                            go_ret
                            exact ⟨by first | rfl | (simp [errW_none, errW_some] <;> rfl) | (simp only [← hji67]; first | rfl | (simp [errW_none, errW_some] <;> rfl)) | (simp [*, errW_none, errW_some] <;> rfl), by repeat (first | (with_reducible first | exact HB.out | apply yA | apply yN | apply yD | refine below_set ?_ GE364.out | refine below_set ?_ GE368.out | refine below_set ?_ GE383.out | refine below_set ?_ GE388.out) | exact HB.out)⟩
                          · rw [if_neg c90] at H
                            have c90b0 : (t386.toList == ([] : List UInt8)) = false := beq_eq_false_iff_ne.mpr c90
                            have c90b1 : (t386.toList != ([] : List UInt8)) = true := bne_iff_ne.mpr c90
                            exact absurd ((Option.some.inj H).trans hr_.out) (by decide)
                        · rw [if_neg c89] at H
                          have c89b0 : (t385 == 0) = false := beq_eq_false_iff_ne.mpr c89
                          have c89b1 : (t385 != 0) = true := bne_iff_ne.mpr c89
                          exact absurd ((Option.some.inj H).trans hr_.out) (by decide)
                      · rw [if_neg c88] at H
                        have c88b0 : (t384 == 0) = false := beq_eq_false_iff_ne.mpr c88
                        have c88b1 : (t384 != 0) = true := bne_iff_ne.mpr c88
                        exact absurd ((Option.some.inj H).trans hr_.out) (by decide)
                  · rw [if_neg c69] at H
                    exact absurd H (by simp)
                · rw [if_neg c68] at H
                  exact absurd H (by simp)

end Go.Proofs.YtinhpbmoiamepaaDoor.Q
