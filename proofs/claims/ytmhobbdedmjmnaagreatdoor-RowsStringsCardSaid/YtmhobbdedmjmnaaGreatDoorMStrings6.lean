/- Lemmas for the claim: contracts of functions and facts about what they compute, part 7 (texts put together, and cut down to what is used, by a program of ours). -/
import Derived.Test.YtmhobbdedmjmnaaGreatDoorMStrings5
section
namespace Go.Proofs.YtmhobbdedmjmnaaGreatDoor.Q
open Go.RowKit Go.Proofs.YtmhobbdedmjmnaaGreatDoorW.PrintWords Go.Proofs.YtmhobbdedmjmnaaGreatDoorW.PrintLast Go.Proofs.YtmhobbdedmjmnaaGreatDoorW.PrintMore
attribute [local go_sem] max2_int min2_int max_two min_two max_three min_three max_four min_four
set_option linter.unusedVariables false
set_option linter.unusedSimpArgs false
mutual
def tacticianref01_Parse.j0 : Nat → ByteArray → Bool → Option (Int × Int × ByteArray × Bool)
  | 0, _, _ => none
  | k + 1, x0, x17 => if x17 = true then ((tacticianref01_Bool.f (x0.toList == ([116, 114, 117, 101] : List UInt8))).bind fun bt713 => (some (bt713.1, bt713.2.1, bt713.2.2, true))) else (if (x0.size : Int) > 0 then (if 0 < (x0.size : Int) then (tacticianref01_Parse.j1 k x0 ((bt x0 0) == 39)) else (none)) else (tacticianref01_Parse.j1 k x0 false))
def tacticianref01_Parse.j1 : Nat → ByteArray → Bool → Option (Int × Int × ByteArray × Bool)
  | 0, _, _ => none
  | k + 1, x0, x28 => if x28 = true then (tacticianref01_Parse.l0 k x0 (⟨#[]⟩ : ByteArray) 1) else ((tacticianref01_Number.f k x0).bind fun bt722 => ((tacticianref01_Int.f bt722.1).bind fun bt724 => (some (bt724.1, bt724.2.1, bt724.2.2, bt722.2))))
def tacticianref01_Parse.l0 : Nat → ByteArray → ByteArray → Int → Option (Int × Int × ByteArray × Bool)
  | 0, _, _, _ => none
  | k + 1, x0, x4, x5 => if x5 < (wrap64 ((x0.size : Int) - 1)) then (tacticianref01_Parse.j3 k x0 x4 x5 (decide ((x4.size : Int) ≤ 200))) else (tacticianref01_Parse.j3 k x0 x4 x5 false)
def tacticianref01_Parse.j3 : Nat → ByteArray → ByteArray → Int → Bool → Option (Int × Int × ByteArray × Bool)
  | 0, _, _, _, _ => none
  | k + 1, x0, x4, x5, x38 => if x38 = true then (if 0 ≤ x5 then (if x5 ≤ (wrap64 (x5 + 1)) then (if (wrap64 (x5 + 1)) ≤ (x0.size : Int) then (if x4.size + (x0.extract (x5 : Int).toNat ((wrap64 (x5 + 1)) : Int).toNat).size ≤ 9223372036854775807 then (if x5 < (x0.size : Int) then (if (bt x0 x5) = 39 then (tacticianref01_Parse.l0 k x0 (x4 ++ (x0.extract (x5 : Int).toNat ((wrap64 (x5 + 1)) : Int).toNat)) (wrap64 ((wrap64 (x5 + 1)) + 1))) else (tacticianref01_Parse.l0 k x0 (x4 ++ (x0.extract (x5 : Int).toNat ((wrap64 (x5 + 1)) : Int).toNat)) (wrap64 (x5 + 1)))) else (none)) else (none)) else (none)) else (none)) else (none)) else ((tacticianref01_Text.f x4).bind fun bt716 => ((tacticianref01_Right_s.f bt716.1 bt716.2.1 bt716.2.2).bind fun t720 => (if t720 = true then ((tacticianref01_String_s.f bt716.1 bt716.2.1 bt716.2.2).bind fun t721 => (some (bt716.1, bt716.2.1, bt716.2.2, (t721.toList == x0.toList)))) else (some (bt716.1, bt716.2.1, bt716.2.2, false)))))
end
def tacticianref01_Parse.f (k : Nat) (a0 : ByteArray) : Option (Int × Int × ByteArray × Bool) := if a0.toList = ([110, 117, 108, 108] : List UInt8) then (some (0, 0, (⟨#[]⟩ : ByteArray), true)) else (if a0.toList = ([116, 114, 117, 101] : List UInt8) then (tacticianref01_Parse.j0 k a0 true) else (tacticianref01_Parse.j0 k a0 (a0.toList == ([102, 97, 108, 115, 101] : List UInt8))))
def tacticianref01_Parse.T14 : Bool × List (List Nat × List Nat) := (true, [([], []), ([], []), ([1], [1]), ([2, 2], [2]), ([3], [3]), ([4, 3, 3], [3, 4]), ([3], [3]), ([5, 6, 3], [3, 5, 6]), ([3, 7], [3, 7]), ([0, 5, 0], [0]), ([8, 9, 0, 1, 2, 3, 4, 5, 6, 7, 8, 9], [8])])
def tacticianref01_Parse.B14 : List Nat := [0, 0, 2, 6, 14, 30, 14, 126, 254, 63, 1023]
theorem tacticianref01_Parse.tab14 : rtab .any (opsOf Tryz.f153 14) = tacticianref01_Parse.T14 := by kernel_rfl
theorem tacticianref01_Parse.bits14 : waitsOk tacticianref01_Parse.T14.2 tacticianref01_Parse.B14 = true := by kernel_rfl
set_option maxHeartbeats 8000000 in
set_option maxRecDepth 100000 in
theorem tacticianref01_Parse.calls (k : Nat) (a0 : ByteArray) (r1 : Int) (r2 : Int) (r3 : ByteArray) (r4 : Bool) (w : World) (h : tacticianref01_Parse.f k a0 = some (r1, r2, r3, r4)) :
  Calls Tryz.prog 153 #[.string a0] w fun e w' => e = .returned (.tuple #[.agg #[.int .i64 r1, .int .i64 r2, .string r3], .bool r4]) ∧ Below w.heap.size w w' := by
 have hu61 := Tryz.underlying61
 have HB := aM (Below.refl w.heap.size w)
 have H : (if a0.toList = ([110, 117, 108, 108] : List UInt8) then (some (0, 0, (⟨#[]⟩ : ByteArray), true)) else (if a0.toList = ([116, 114, 117, 101] : List UInt8) then (tacticianref01_Parse.j0 k a0 true) else (tacticianref01_Parse.j0 k a0 (a0.toList == ([102, 97, 108, 115, 101] : List UInt8))))) = some (r1, r2, r3, r4) := h
 clear h
 by_cases c2 : a0.toList = ([110, 117, 108, 108] : List UInt8)
 ·rw [if_pos c2] at H
  have c2b0 : (a0.toList == ([110, 117, 108, 108] : List UInt8)) = true := beq_iff_eq.mpr c2
  have c2b1 : (a0.toList != ([110, 117, 108, 108] : List UInt8)) = false := bne_eq_false_iff_eq.mpr c2
  clear c2
  simp only [Option.some.injEq, Prod.mk.injEq] at H
  obtain ⟨rfl, rfl, rfl, rfl⟩ := H
  go_enter Tryz.func153, Tryz.ntmps153
  go_wp2_with (first | ((with_reducible refine gate_dst (N := 2) rfl ?_); (try (refine gate_guard (by rfl) ?_; dsimp only)); refine box_event ?hg (N := 2) ?hd (cs := #[.int .i64 0, .int .i64 0, .string (⟨#[]⟩ : ByteArray)]) (t := 61) ?hr ?_; (case hd => rfl); (case hg => rfl); (case hr => first | (go_simp; done) | (go_simp; rfl)); intro gb712 hg w3 hbox hb; have n0_ := aM (below_step (by repeat (first | (with_reducible first | exact HB.out | apply yA | apply yN | apply yD) | exact HB.out)) hb); have n1_ := aM (hbox); have n2_ := aM ((by rw [hg]; exact (below_size (by repeat (first | (with_reducible first | exact HB.out | apply yA | apply yN | apply yD) | exact HB.out))) : w.heap.size ≤ gb712)); have n3_ := n2_; clear HB; have HB := n0_; have BK712 := n1_; have GW712 := n2_; have GE712 := n3_; clear n0_ n1_ n2_ n3_; clear hb hbox hg; have hcz4_0 : w3.cell? ⟨gb712, 0, none⟩ = some (.int .i64 0) := (blk_cell BK712.out 0).trans rfl; have hcz4_1 : w3.cell? ⟨gb712, 1, none⟩ = some (.int .i64 0) := (blk_cell BK712.out 1).trans rfl; have hcz4_2 : w3.cell? ⟨gb712, 2, none⟩ = some (.string (⟨#[]⟩ : ByteArray)) := (blk_cell BK712.out 2).trans rfl; have hfz4_0 := blk_frozen BK712.out 0; have hfz4_1 := blk_frozen BK712.out 1; have hfz4_2 := blk_frozen BK712.out 2))
  refine bodyPost_ret (results_ct rfl _ _ gb712 61 #[.int .i64 0, .int .i64 0, .string (⟨#[]⟩ : ByteArray)] (0, 0) _ rfl (by (with_reducible repeat (first | refine zN ?_ _ | refine zD ?_ | refine zA ?_ _)); refine blk_put (cs := #[.int .i64 0, .int .i64 0, .string (⟨#[]⟩ : ByteArray)]) ?_ 2 _ rfl; (with_reducible repeat (first | refine zN ?_ _ | refine zD ?_ | refine zA ?_ _)); refine blk_put (cs := #[.int .i64 0, .int .i64 0, .string (⟨#[]⟩ : ByteArray)]) ?_ 1 _ rfl; (with_reducible repeat (first | refine zN ?_ _ | refine zD ?_ | refine zA ?_ _)); refine blk_put (cs := #[.int .i64 0, .int .i64 0, .string (⟨#[]⟩ : ByteArray)]) ?_ 0 _ rfl; (with_reducible repeat (first | refine zN ?_ _ | refine zD ?_ | refine zA ?_ _)); exact BK712.out) Tryz.underlying61 rfl (by kernel_rfl)) rfl ?_
  exact ⟨by first | rfl | (simp [errW_none, errW_some] <;> rfl) | (simp [*, errW_none, errW_some] <;> rfl), by repeat (first | (with_reducible first | exact HB.out | apply yA | apply yN | apply yD | refine below_set ?_ GE712.out) | exact HB.out)⟩
 ·rw [if_neg c2] at H
  have c2b0 : (a0.toList == ([110, 117, 108, 108] : List UInt8)) = false := beq_eq_false_iff_ne.mpr c2
  have c2b1 : (a0.toList != ([110, 117, 108, 108] : List UInt8)) = true := bne_iff_ne.mpr c2
  have HC5 := aM H
  clear H
  go_enter Tryz.func153, Tryz.ntmps153
  go_upto_region 3 with (first | ((with_reducible refine gate_dst (N := 2) rfl ?_); (try (refine gate_guard (by rfl) ?_; dsimp only)); refine box_event ?hg (N := 2) ?hd (cs := #[.int .i64 0, .int .i64 0, .string (⟨#[]⟩ : ByteArray)]) (t := 61) ?hr ?_; (case hd => rfl); (case hg => rfl); (case hr => first | (go_simp; done) | (go_simp; rfl)); intro gb712 hg w6 hbox hb; have n0_ := aM (below_step (by repeat (first | (with_reducible first | exact HB.out | apply yA | apply yN | apply yD) | exact HB.out)) hb); have n1_ := aM (hbox); have n2_ := aM ((by rw [hg]; exact (below_size (by repeat (first | (with_reducible first | exact HB.out | apply yA | apply yN | apply yD) | exact HB.out))) : w.heap.size ≤ gb712)); have n3_ := n2_; clear HB; have HB := n0_; have BK712 := n1_; have GW712 := n2_; have GE712 := n3_; clear n0_ n1_ n2_ n3_; clear hb hbox hg))
  (try simp only [Act.put, List.setIfInBounds_toArray, List.set_cons_zero, List.set_cons_succ])
  go_cut [17] (fun v17 wc => ∃ (kq : Nat) (x17_4 : Bool), v17 = .bool x17_4 ∧ Aside0 (tacticianref01_Parse.j0 kq a0 x17_4 = some (r1, r2, r3, r4)) ∧ Aside0 (kq ≤ k) ∧ Aside0 (wc.heap[gb712]? = some (.cells #[.int .i64 0, .int .i64 0, .string (⟨#[]⟩ : ByteArray)] 61 (0, 0))) ∧ Aside0 (Below w.heap.size w wc))
  case first =>
   have H := HC5.out
   clear HC5
   by_cases c7 : a0.toList = ([116, 114, 117, 101] : List UInt8)
   ·rw [if_pos c7] at H
    have c7b0 : (a0.toList == ([116, 114, 117, 101] : List UInt8)) = true := beq_iff_eq.mpr c7
    have c7b1 : (a0.toList != ([116, 114, 117, 101] : List UInt8)) = false := bne_eq_false_iff_eq.mpr c7
    clear c7
    (first | rw [c7b0] | (simp only [i64_w, i32_w]; rw [c7b0]) | skip)
    have H' := aM H
    clear H
    go_wp2
    go_meet
    case rel => exact ⟨_, (true), (by first | rfl | (simp; done) | (simp [*]; done)), H', ⟨by first | omega | exact Nat.le_refl _⟩, ⟨by (with_reducible repeat (first | refine zN ?_ _ | refine zD ?_ | refine zA ?_ _)); exact BK712.out⟩, ⟨by repeat (first | (with_reducible first | exact HB.out | apply yA | apply yN | apply yD | refine below_set ?_ GE712.out) | exact HB.out)⟩⟩
   ·rw [if_neg c7] at H
    have c7b0 : (a0.toList == ([116, 114, 117, 101] : List UInt8)) = false := beq_eq_false_iff_ne.mpr c7
    have c7b1 : (a0.toList != ([116, 114, 117, 101] : List UInt8)) = true := bne_iff_ne.mpr c7
    (first | rw [c7b0] | (simp only [i64_w, i32_w]; rw [c7b0]) | skip)
    have H' := aM H
    clear H
    go_wp2
    go_meet
    case rel => exact ⟨_, ((a0.toList == ([102, 97, 108, 115, 101] : List UInt8))), (by first | rfl | (simp; done) | (simp [*]; done)), H', ⟨by first | omega | exact Nat.le_refl _⟩, ⟨by (with_reducible repeat (first | refine zN ?_ _ | refine zD ?_ | refine zA ?_ _)); exact BK712.out⟩, ⟨by repeat (first | (with_reducible first | exact HB.out | apply yA | apply yN | apply yD | refine below_set ?_ GE712.out) | exact HB.out)⟩⟩
  case rest =>
   clear HC5
   try clear c2
   try clear c2b0
   try clear c2b1
   obtain ⟨kq, x17_4, rfl, HA, HJ4, BK712, HB⟩ := hcut
   cases kq with
   | zero => exact absurd HA.out (by simp [tacticianref01_Parse.j0])
   | succ kj4 =>
    have H := HA.out
    clear HA
    simp only [tacticianref01_Parse.j0] at H
    by_cases c8 : x17_4 = true
    ·subst c8
     have H1 : ((tacticianref01_Bool.f (a0.toList == ([116, 114, 117, 101] : List UInt8))).bind fun bt713 => (some (bt713.1, bt713.2.1, bt713.2.2, true))) = some (r1, r2, r3, r4) := by rw [if_pos rfl] at H; exact H
     clear H
     have H := H1
     clear H1
     replace H := Option.bind_eq_some_iff.mp H
     obtain ⟨⟨t713, t714, t715⟩, A90, H⟩ := H
     replace H : (some (t713, t714, t715, true)) = some (r1, r2, r3, r4) := H
     have A9 := aM A90
     clear A90
     simp only [Option.some.injEq, Prod.mk.injEq] at H
     obtain ⟨rfl, rfl, rfl, rfl⟩ := H
     go_wp2_with (first | ((with_reducible refine gate_callee (f := 142) rfl ?_); refine goesL_ (some 20) rfl rfl Tryz.func142 (by kernel_rfl) rfl #[.bool (a0.toList == ([116, 114, 117, 101] : List UInt8))] rfl (by (try simp only [List.map_toArray, List.map_cons, List.map_nil]); first | done | rfl | (simp only [List.length_drop, List.length_take]; rfl)) ?_; (with_reducible refine (tacticianref01_Bool.calls (a0.toList == ([116, 114, 117, 101] : List UInt8)) t713 t714 t715 _ A9.out).mono ?_); rintro e w10 ⟨rfl, hb⟩; refine ⟨_, rfl, ?_⟩; have n0_ := aM (blk_below (g := gb712) (o := .cells #[.int .i64 0, .int .i64 0, .string (⟨#[]⟩ : ByteArray)] 61 (0, 0)) (by (with_reducible repeat (first | refine zN ?_ _ | refine zD ?_ | refine zA ?_ _)); exact BK712.out) hb); have n1_ := aM (below_step (by repeat (first | (with_reducible first | exact HB.out | apply yA | apply yN | apply yD | refine below_set ?_ GE712.out) | exact HB.out)) hb); clear BK712; clear HB; have BK712 := n0_; have HB := n1_; clear n0_ n1_; (try clear hb); (try clear hb2); (try clear hk); (try clear hi); have hcz11_0 : w10.cell? ⟨gb712, 0, none⟩ = some (.int .i64 0) := (blk_cell BK712.out 0).trans rfl; have hcz11_1 : w10.cell? ⟨gb712, 1, none⟩ = some (.int .i64 0) := (blk_cell BK712.out 1).trans rfl; have hcz11_2 : w10.cell? ⟨gb712, 2, none⟩ = some (.string (⟨#[]⟩ : ByteArray)) := (blk_cell BK712.out 2).trans rfl; have hfz11_0 := blk_frozen BK712.out 0; have hfz11_1 := blk_frozen BK712.out 1; have hfz11_2 := blk_frozen BK712.out 2))
     refine bodyPost_ret (results_ct rfl _ _ gb712 61 #[.int .i64 t713, .int .i64 t714, .string t715] (0, 0) _ rfl (by (with_reducible repeat (first | refine zN ?_ _ | refine zD ?_ | refine zA ?_ _)); refine blk_put (cs := #[.int .i64 t713, .int .i64 t714, .string (⟨#[]⟩ : ByteArray)]) ?_ 2 _ rfl; (with_reducible repeat (first | refine zN ?_ _ | refine zD ?_ | refine zA ?_ _)); refine blk_put (cs := #[.int .i64 t713, .int .i64 0, .string (⟨#[]⟩ : ByteArray)]) ?_ 1 _ rfl; (with_reducible repeat (first | refine zN ?_ _ | refine zD ?_ | refine zA ?_ _)); refine blk_put (cs := #[.int .i64 0, .int .i64 0, .string (⟨#[]⟩ : ByteArray)]) ?_ 0 _ rfl; (with_reducible repeat (first | refine zN ?_ _ | refine zD ?_ | refine zA ?_ _)); exact BK712.out) Tryz.underlying61 rfl (by kernel_rfl)) rfl ?_
     exact ⟨by first | rfl | (simp [errW_none, errW_some] <;> rfl) | (simp [*, errW_none, errW_some] <;> rfl), by repeat (first | (with_reducible first | exact HB.out | apply yA | apply yN | apply yD | refine below_set ?_ GE712.out) | exact HB.out)⟩
    ·replace c8 := Bool.eq_false_iff.mpr c8
     subst c8
     have H1 : (if (a0.size : Int) > 0 then (if 0 < (a0.size : Int) then (tacticianref01_Parse.j1 kj4 a0 ((bt a0 0) == 39)) else (none)) else (tacticianref01_Parse.j1 kj4 a0 false)) = some (r1, r2, r3, r4) := by rw [if_neg (show ¬ (false = true) by decide)] at H; exact H
     clear H
     have H := H1
     clear H1
     have HC12 := aM H
     clear H
     go_upto_region 5 with (fail)
     go_cut [28] (fun v28 wc => ∃ (kq : Nat) (x28_11 : Bool), v28 = .bool x28_11 ∧ Aside0 (tacticianref01_Parse.j1 kq a0 x28_11 = some (r1, r2, r3, r4)) ∧ Aside0 (kq ≤ kj4) ∧ Aside0 (wc.heap[gb712]? = some (.cells #[.int .i64 0, .int .i64 0, .string (⟨#[]⟩ : ByteArray)] 61 (0, 0))) ∧ Aside0 (Below w.heap.size w wc))
     case first =>
      have H := HC12.out
      clear HC12
      by_cases c13 : (a0.size : Int) > 0
      ·rw [if_pos c13] at H
       have c13b0 : decide (0 < (a0.size : Int)) = true := decide_eq_true c13
       have c13b1 : decide (0 < a0.size) = true := decide_eq_true (by omega)
       clear c13
       (first | rw [c13b0] | (simp only [i64_w, i32_w]; rw [c13b0]) | skip)
       by_cases c14 : 0 < (a0.size : Int)
       ·rw [if_pos c14] at H
        have c14b0 : decide (0 < (a0.size : Int)) = true := decide_eq_true c14
        have c14b1 : decide (0 < a0.size) = true := decide_eq_true (by omega)
        clear c14
        have H' := aM H
        clear H
        have p15 : 0 ≤ (0 : Int) := (by omega)
        have q15 : 0 < a0.size := (by have : (0 : Int) < (a0.size : Int) := of_decide_eq_true (by first | (with_reducible assumption) | assumption); omega)
        have hx15 : ∀ h : 0 < a0.size, ((a0[0]'h).toNat : Int) = bt a0 0 := bt_at a0 0
        clear p15
        have qi15 : (0 < (a0.size : Int)) = True := eq_true (of_decide_eq_true (by first | (with_reducible assumption) | assumption))
        replace q15 := eq_true q15
        go_wp2
        go_meet
        case rel => exact ⟨_, (((bt a0 0) == 39)), (by first | rfl | (simp; done) | (simp [*]; done)), H', ⟨by have := HJ4.out; first | omega | exact Nat.le_refl _⟩, ⟨by (with_reducible repeat (first | refine zN ?_ _ | refine zD ?_ | refine zA ?_ _)); exact BK712.out⟩, ⟨by repeat (first | (with_reducible first | exact HB.out | apply yA | apply yN | apply yD | refine below_set ?_ GE712.out) | exact HB.out)⟩⟩
       ·rw [if_neg c14] at H
        exact absurd H (by simp)
      ·rw [if_neg c13] at H
       have c13b0 : decide (0 < (a0.size : Int)) = false := decide_eq_false c13
       have c13b1 : decide (0 < a0.size) = false := decide_eq_false (by omega)
       clear c13
       (first | rw [c13b0] | (simp only [i64_w, i32_w]; rw [c13b0]) | skip)
       have H' := aM H
       clear H
       go_wp2
       go_meet
       case rel => exact ⟨_, (false), (by first | rfl | (simp; done) | (simp [*]; done)), H', ⟨by have := HJ4.out; first | omega | exact Nat.le_refl _⟩, ⟨by (with_reducible repeat (first | refine zN ?_ _ | refine zD ?_ | refine zA ?_ _)); exact BK712.out⟩, ⟨by repeat (first | (with_reducible first | exact HB.out | apply yA | apply yN | apply yD | refine below_set ?_ GE712.out) | exact HB.out)⟩⟩
     case rest =>
      clear HC12
      try clear c2
      try clear c2b0
      try clear c2b1
      try clear c8
      obtain ⟨kq, x28_11, rfl, HA, HJ11, BK712, HB⟩ := hcut
      cases kq with
      | zero => exact absurd HA.out (by simp [tacticianref01_Parse.j1])
      | succ kj11 =>
       have H := HA.out
       clear HA
       simp only [tacticianref01_Parse.j1] at H
       by_cases c16 : x28_11 = true
       ·subst c16
        have H1 : (tacticianref01_Parse.l0 kj11 a0 (⟨#[]⟩ : ByteArray) 1) = some (r1, r2, r3, r4) := by rw [if_pos rfl] at H; exact H
        clear H
        have H := H1
        clear H1
        have H' := aM H
        clear H
        go_wp2
        go_loopg [4, 5] kj11 (fun kq v4 v5 w' => ∃ (x4_3 : ByteArray) (x5_3 : Int), v4 = .string x4_3 ∧ v5 = .int .i64 x5_3 ∧ Aside0 (tacticianref01_Parse.l0 kq a0 x4_3 x5_3 = some (r1, r2, r3, r4)) ∧ Aside0 (kq ≤ kj11) ∧ Aside0 (w'.heap[gb712]? = some (.cells #[.int .i64 0, .int .i64 0, .string (⟨#[]⟩ : ByteArray)] 61 (0, 0))) ∧ Aside0 (Below w.heap.size w w'))
        case atStart => exact ⟨((⟨#[]⟩ : ByteArray)), (1), (by first | rfl | (simp; done) | (simp [*]; done)), (by first | rfl | (simp; done) | (simp [*]; done)), H', ⟨Nat.le_refl _⟩, ⟨by (with_reducible repeat (first | refine zN ?_ _ | refine zD ?_ | refine zA ?_ _)); exact BK712.out⟩, ⟨by repeat (first | (with_reducible first | exact HB.out | apply yA | apply yN | apply yD | refine below_set ?_ GE712.out) | exact HB.out)⟩⟩
        case round =>
         clear H'
         try clear c2
         try clear c2b0
         try clear c2b1
         try clear c8
         try clear c16
         obtain ⟨x4_3, x5_3, rfl, rfl, HA, HK3, BK712, HB⟩ := hrel
         cases gk with
         | zero => exact absurd HA.out (by simp [tacticianref01_Parse.l0])
         | succ k3 =>
          have H := HA.out
          clear HA
          simp only [tacticianref01_Parse.l0] at H
          have HC17 := aM H
          clear H
          go_upto_region 8 with (fail)
          go_cut [38] (fun v38 wc => ∃ (kq : Nat) (x38_16 : Bool), v38 = .bool x38_16 ∧ Aside0 (tacticianref01_Parse.j3 kq a0 x4_3 x5_3 x38_16 = some (r1, r2, r3, r4)) ∧ Aside0 (kq ≤ k3) ∧ Aside0 (wc.heap[gb712]? = some (.cells #[.int .i64 0, .int .i64 0, .string (⟨#[]⟩ : ByteArray)] 61 (0, 0))) ∧ Aside0 (Below w.heap.size w wc))
          case first =>
           have H := HC17.out
           clear HC17
           by_cases c18 : x5_3 < (wrap64 ((a0.size : Int) - 1))
           ·rw [if_pos c18] at H
            have c18b0 : decide (x5_3 < (wrap64 ((a0.size : Int) - 1))) = true := decide_eq_true c18
            clear c18
            (first | rw [c18b0] | (simp only [i64_w, i32_w]; rw [c18b0]) | skip)
            have H' := aM H
            clear H
            go_wp2
            go_meet
            case rel => exact ⟨_, (decide ((x4_3.size : Int) ≤ 200)), (by first | rfl | (simp; done) | (simp [*]; done)), H', ⟨by have := HJ4.out; have := HJ11.out; have := HK3.out; first | omega | exact Nat.le_refl _⟩, ⟨by (with_reducible repeat (first | refine zN ?_ _ | refine zD ?_ | refine zA ?_ _)); exact BK712.out⟩, ⟨by repeat (first | (with_reducible first | exact HB.out | apply yA | apply yN | apply yD | refine below_set ?_ GE712.out) | exact HB.out)⟩⟩
           ·rw [if_neg c18] at H
            have c18b0 : decide (x5_3 < (wrap64 ((a0.size : Int) - 1))) = false := decide_eq_false c18
            clear c18
            (first | rw [c18b0] | (simp only [i64_w, i32_w]; rw [c18b0]) | skip)
            have H' := aM H
            clear H
            go_wp2
            go_meet
            case rel => exact ⟨_, (false), (by first | rfl | (simp; done) | (simp [*]; done)), H', ⟨by have := HJ4.out; have := HJ11.out; have := HK3.out; first | omega | exact Nat.le_refl _⟩, ⟨by (with_reducible repeat (first | refine zN ?_ _ | refine zD ?_ | refine zA ?_ _)); exact BK712.out⟩, ⟨by repeat (first | (with_reducible first | exact HB.out | apply yA | apply yN | apply yD | refine below_set ?_ GE712.out) | exact HB.out)⟩⟩
          case rest =>
           clear HC17
           try clear c2
           try clear c2b0
           try clear c2b1
           try clear c8
           try clear c16
           obtain ⟨kq, x38_16, rfl, HA, HJ16, BK712, HB⟩ := hcut
           cases kq with
           | zero => exact absurd HA.out (by simp [tacticianref01_Parse.j3])
           | succ kj16 =>
            have H := HA.out
            clear HA
            simp only [tacticianref01_Parse.j3] at H
            by_cases c19 : x38_16 = true
            ·subst c19
             have H1 : (if 0 ≤ x5_3 then (if x5_3 ≤ (wrap64 (x5_3 + 1)) then (if (wrap64 (x5_3 + 1)) ≤ (a0.size : Int) then (if x4_3.size + (a0.extract (x5_3 : Int).toNat ((wrap64 (x5_3 + 1)) : Int).toNat).size ≤ 9223372036854775807 then (if x5_3 < (a0.size : Int) then (if (bt a0 x5_3) = 39 then (tacticianref01_Parse.l0 kj16 a0 (x4_3 ++ (a0.extract (x5_3 : Int).toNat ((wrap64 (x5_3 + 1)) : Int).toNat)) (wrap64 ((wrap64 (x5_3 + 1)) + 1))) else (tacticianref01_Parse.l0 kj16 a0 (x4_3 ++ (a0.extract (x5_3 : Int).toNat ((wrap64 (x5_3 + 1)) : Int).toNat)) (wrap64 (x5_3 + 1)))) else (none)) else (none)) else (none)) else (none)) else (none)) = some (r1, r2, r3, r4) := by rw [if_pos rfl] at H; exact H
             clear H
             have H := H1
             clear H1
             by_cases c20 : 0 ≤ x5_3
             ·rw [if_pos c20] at H
              have c20b0 := eq_true c20
              have c20b1 : decide (0 ≤ x5_3) = true := decide_eq_true c20
              clear c20
              by_cases c21 : x5_3 ≤ (wrap64 (x5_3 + 1))
              ·rw [if_pos c21] at H
               have c21b0 := eq_true c21
               have c21b1 : decide (x5_3 ≤ (wrap64 (x5_3 + 1))) = true := decide_eq_true c21
               by_cases c22 : (wrap64 (x5_3 + 1)) ≤ (a0.size : Int)
               ·rw [if_pos c22] at H
                have c22b0 := eq_true c22
                have c22b1 : decide ((wrap64 (x5_3 + 1)) ≤ (a0.size : Int)) = true := decide_eq_true c22
                by_cases c23 : x4_3.size + (a0.extract (x5_3 : Int).toNat ((wrap64 (x5_3 + 1)) : Int).toNat).size ≤ 9223372036854775807
                ·rw [if_pos c23] at H
                 have c23b0 := eq_true c23
                 have c23b1 : decide (x4_3.size + (a0.extract (x5_3 : Int).toNat ((wrap64 (x5_3 + 1)) : Int).toNat).size ≤ 9223372036854775807) = true := decide_eq_true c23
                 try have c23b2 : (9223372036854775807 < x4_3.size + (a0.extract (x5_3 : Int).toNat ((wrap64 (x5_3 + 1)) : Int).toNat).size) = False := eq_false (Nat.not_lt.2 c23)
                 by_cases c24 : x5_3 < (a0.size : Int)
                 ·rw [if_pos c24] at H
                  have c24b0 : decide (x5_3 < (a0.size : Int)) = true := decide_eq_true c24
                  clear c24
                  by_cases c26 : (bt a0 x5_3) = 39
                  ·rw [if_pos c26] at H
                   have c26b0 : ((bt a0 x5_3) == 39) = true := beq_iff_eq.mpr c26
                   have c26b1 : ((bt a0 x5_3) != 39) = false := bne_eq_false_iff_eq.mpr c26
                   clear c26
                   have H' := aM H
                   clear H
                   have p25 : 0 ≤ (x5_3 : Int) := of_decide_eq_true (by first | (with_reducible assumption) | assumption)
                   have q25 : x5_3 < (a0.size : Int) := of_decide_eq_true (by first | (with_reducible assumption) | assumption)
                   have hx25 := bt_at a0 x5_3
                   replace p25 := eq_true p25
                   replace q25 := eq_true q25
                   go_wp2
                   go_roundg kj16
                   case measure => have := HJ4.out; have := HJ11.out; have := HK3.out; have := HJ16.out; omega
                   case rel => exact ⟨(x4_3 ++ (a0.extract (x5_3 : Int).toNat ((wrap64 (x5_3 + 1)) : Int).toNat)), (wrap64 ((wrap64 (x5_3 + 1)) + 1)), (by first | rfl | (simp; done) | (simp [*]; done)), (by first | rfl | (simp; done) | (simp [*]; done)), H', ⟨by have := HJ4.out; have := HJ11.out; have := HK3.out; have := HJ16.out; omega⟩, ⟨by (with_reducible repeat (first | refine zN ?_ _ | refine zD ?_ | refine zA ?_ _)); exact BK712.out⟩, ⟨by repeat (first | (with_reducible first | exact HB.out | apply yA | apply yN | apply yD | refine below_set ?_ GE712.out) | exact HB.out)⟩⟩
                  ·rw [if_neg c26] at H
                   have c26b0 : ((bt a0 x5_3) == 39) = false := beq_eq_false_iff_ne.mpr c26
                   have c26b1 : ((bt a0 x5_3) != 39) = true := bne_iff_ne.mpr c26
                   have H' := aM H
                   clear H
                   have p25 : 0 ≤ (x5_3 : Int) := of_decide_eq_true (by first | (with_reducible assumption) | assumption)
                   have q25 : x5_3 < (a0.size : Int) := of_decide_eq_true (by first | (with_reducible assumption) | assumption)
                   have hx25 := bt_at a0 x5_3
                   replace p25 := eq_true p25
                   replace q25 := eq_true q25
                   go_wp2
                   go_roundg kj16
                   case measure => have := HJ4.out; have := HJ11.out; have := HK3.out; have := HJ16.out; omega
                   case rel => exact ⟨(x4_3 ++ (a0.extract (x5_3 : Int).toNat ((wrap64 (x5_3 + 1)) : Int).toNat)), (wrap64 (x5_3 + 1)), (by first | rfl | (simp; done) | (simp [*]; done)), (by first | rfl | (simp; done) | (simp [*]; done)), H', ⟨by have := HJ4.out; have := HJ11.out; have := HK3.out; have := HJ16.out; omega⟩, ⟨by (with_reducible repeat (first | refine zN ?_ _ | refine zD ?_ | refine zA ?_ _)); exact BK712.out⟩, ⟨by repeat (first | (with_reducible first | exact HB.out | apply yA | apply yN | apply yD | refine below_set ?_ GE712.out) | exact HB.out)⟩⟩
                 ·rw [if_neg c24] at H
                  exact absurd H (by simp)
                ·rw [if_neg c23] at H
                 exact absurd H (by simp)
               ·rw [if_neg c22] at H
                exact absurd H (by simp)
              ·rw [if_neg c21] at H
               exact absurd H (by simp)
             ·rw [if_neg c20] at H
              exact absurd H (by simp)
            ·replace c19 := Bool.eq_false_iff.mpr c19
             subst c19
             have H1 : ((tacticianref01_Text.f x4_3).bind fun bt716 => ((tacticianref01_Right_s.f bt716.1 bt716.2.1 bt716.2.2).bind fun t720 => (if t720 = true then ((tacticianref01_String_s.f bt716.1 bt716.2.1 bt716.2.2).bind fun t721 => (some (bt716.1, bt716.2.1, bt716.2.2, (t721.toList == a0.toList)))) else (some (bt716.1, bt716.2.1, bt716.2.2, false))))) = some (r1, r2, r3, r4) := by rw [if_neg (show ¬ (false = true) by decide)] at H; exact H
             clear H
             have H := H1
             clear H1
             replace H := Option.bind_eq_some_iff.mp H
             obtain ⟨⟨t716, t717, t718⟩, A270, H⟩ := H
             replace H : ((tacticianref01_Right_s.f t716 t717 t718).bind fun t720 => (if t720 = true then ((tacticianref01_String_s.f t716 t717 t718).bind fun t721 => (some (t716, t717, t718, (t721.toList == a0.toList)))) else (some (t716, t717, t718, false)))) = some (r1, r2, r3, r4) := H
             have A27 := aM A270
             clear A270
             replace H := Option.bind_eq_some_iff.mp H
             obtain ⟨t720, A280, H⟩ := H
             replace H : (if t720 = true then ((tacticianref01_String_s.f t716 t717 t718).bind fun t721 => (some (t716, t717, t718, (t721.toList == a0.toList)))) else (some (t716, t717, t718, false))) = some (r1, r2, r3, r4) := H
             have A28 := aM A280
             clear A280
             by_cases c29 : t720 = true
             ·subst c29
              have H1 : ((tacticianref01_String_s.f t716 t717 t718).bind fun t721 => (some (t716, t717, t718, (t721.toList == a0.toList)))) = some (r1, r2, r3, r4) := by rw [if_pos rfl] at H; exact H
              clear H
              have H := H1
              clear H1
              replace H := Option.bind_eq_some_iff.mp H
              obtain ⟨t721, A300, H⟩ := H
              replace H : (some (t716, t717, t718, (t721.toList == a0.toList))) = some (r1, r2, r3, r4) := H
              have A30 := aM A300
              clear A300
              simp only [Option.some.injEq, Prod.mk.injEq] at H
              obtain ⟨rfl, rfl, rfl, rfl⟩ := H
              try go_wp2_with (first | ((with_reducible refine gate_callee (f := 143) rfl ?_); refine goesL_ (some 55) rfl rfl Tryz.func143 (by kernel_rfl) rfl #[.string x4_3] rfl (by (try simp only [List.map_toArray, List.map_cons, List.map_nil]); first | done | rfl | (simp only [List.length_drop, List.length_take]; rfl)) ?_; (with_reducible refine (tacticianref01_Text.calls x4_3 t716 t717 t718 _ A27.out).mono ?_); rintro e w31 ⟨rfl, hb⟩; refine ⟨_, rfl, ?_⟩; have n0_ := aM (blk_below (g := gb712) (o := .cells #[.int .i64 0, .int .i64 0, .string (⟨#[]⟩ : ByteArray)] 61 (0, 0)) (by (with_reducible repeat (first | refine zN ?_ _ | refine zD ?_ | refine zA ?_ _)); exact BK712.out) hb); have n1_ := aM (below_step (by repeat (first | (with_reducible first | exact HB.out | apply yA | apply yN | apply yD | refine below_set ?_ GE712.out) | exact HB.out)) hb); clear BK712; clear HB; have BK712 := n0_; have HB := n1_; clear n0_ n1_; (try clear hb); (try clear hb2); (try clear hk); (try clear hi)) | ((with_reducible refine gate_dst (N := 6) rfl ?_); (try (refine gate_guard (by rfl) ?_; dsimp only)); refine box_event ?hg (N := 6) ?hd (cs := #[.int .i64 0, .int .i64 0, .string (⟨#[]⟩ : ByteArray)]) (t := 61) ?hr ?_; (case hd => rfl); (case hg => rfl); (case hr => first | (go_simp; done) | (go_simp; rfl)); intro gb719 hg w32 hbox hb; have n0_ := aM (blk_below (g := gb712) (o := .cells #[.int .i64 0, .int .i64 0, .string (⟨#[]⟩ : ByteArray)] 61 (0, 0)) (by (with_reducible repeat (first | refine zN ?_ _ | refine zD ?_ | refine zA ?_ _)); exact BK712.out) hb); have n1_ := aM (below_step (by repeat (first | (with_reducible first | exact HB.out | apply yA | apply yN | apply yD | refine below_set ?_ GE712.out) | exact HB.out)) hb); have n2_ := aM (hbox); have n3_ := aM ((by rw [hg]; exact (below_size (by repeat (first | (with_reducible first | exact HB.out | apply yA | apply yN | apply yD | refine below_set ?_ GE712.out) | exact HB.out))) : w.heap.size ≤ gb719)); have n4_ := n3_; have n5_ := aM ((by rw [hg]; exact Nat.ne_of_lt (blk_lt (g := gb712) (o := .cells #[.int .i64 0, .int .i64 0, .string (⟨#[]⟩ : ByteArray)] 61 (0, 0)) (by (with_reducible repeat (first | refine zN ?_ _ | refine zD ?_ | refine zA ?_ _)); exact BK712.out)) : gb712 ≠ gb719)); have n6_ := aM n5_.out.symm; clear BK712; clear HB; have BK712 := n0_; have HB := n1_; have BK719 := n2_; have GW719 := n3_; have GE719 := n4_; have NB712_719 := n5_; have NB719_712 := n6_; clear n0_ n1_ n2_ n3_ n4_ n5_ n6_; clear hb hbox hg; have hnb33 := NB719_712.out; have hnc33 := NB712_719.out; have hcz34_0 : w32.cell? ⟨gb719, 0, none⟩ = some (.int .i64 0) := (blk_cell BK719.out 0).trans rfl; have hcz34_1 : w32.cell? ⟨gb719, 1, none⟩ = some (.int .i64 0) := (blk_cell BK719.out 1).trans rfl; have hcz34_2 : w32.cell? ⟨gb719, 2, none⟩ = some (.string (⟨#[]⟩ : ByteArray)) := (blk_cell BK719.out 2).trans rfl; have hfz34_0 := blk_frozen BK719.out 0; have hfz34_1 := blk_frozen BK719.out 1; have hfz34_2 := blk_frozen BK719.out 2))
              have n0_ : Aside0 ((((w32.setCell ⟨gb719, 0, none⟩ (.int .i64 t716)).setCell ⟨gb719, 1, none⟩ (.int .i64 t717)).setCell ⟨gb719, 2, none⟩ (.string t718)).heap[gb712]? = some (.cells #[.int .i64 0, .int .i64 0, .string (⟨#[]⟩ : ByteArray)] 61 (0, 0))) := ⟨by (with_reducible repeat (first | refine zN ?_ _ | refine zD ?_ | refine zA ?_ _)); refine blk_far ?_ NB712_719.out _; (with_reducible repeat (first | refine zN ?_ _ | refine zD ?_ | refine zA ?_ _)); refine blk_far ?_ NB712_719.out _; (with_reducible repeat (first | refine zN ?_ _ | refine zD ?_ | refine zA ?_ _)); refine blk_far ?_ NB712_719.out _; (with_reducible repeat (first | refine zN ?_ _ | refine zD ?_ | refine zA ?_ _)); exact BK712.out⟩
              have n1_ : Aside0 ((((w32.setCell ⟨gb719, 0, none⟩ (.int .i64 t716)).setCell ⟨gb719, 1, none⟩ (.int .i64 t717)).setCell ⟨gb719, 2, none⟩ (.string t718)).heap[gb719]? = some (.cells #[.int .i64 t716, .int .i64 t717, .string t718] 61 (0, 0))) := ⟨by (with_reducible repeat (first | refine zN ?_ _ | refine zD ?_ | refine zA ?_ _)); refine blk_put (cs := #[.int .i64 t716, .int .i64 t717, .string (⟨#[]⟩ : ByteArray)]) ?_ 2 _ rfl; (with_reducible repeat (first | refine zN ?_ _ | refine zD ?_ | refine zA ?_ _)); refine blk_put (cs := #[.int .i64 t716, .int .i64 0, .string (⟨#[]⟩ : ByteArray)]) ?_ 1 _ rfl; (with_reducible repeat (first | refine zN ?_ _ | refine zD ?_ | refine zA ?_ _)); refine blk_put (cs := #[.int .i64 0, .int .i64 0, .string (⟨#[]⟩ : ByteArray)]) ?_ 0 _ rfl; (with_reducible repeat (first | refine zN ?_ _ | refine zD ?_ | refine zA ?_ _)); exact BK719.out⟩
              have n2_ : Aside0 (Below w.heap.size w (((w32.setCell ⟨gb719, 0, none⟩ (.int .i64 t716)).setCell ⟨gb719, 1, none⟩ (.int .i64 t717)).setCell ⟨gb719, 2, none⟩ (.string t718))) := ⟨by repeat (first | (with_reducible first | exact HB.out | apply yA | apply yN | apply yD | refine below_set ?_ GE712.out | refine below_set ?_ GE719.out) | exact HB.out)⟩
              (try clear BK712)
              (try clear BK719)
              (try clear HB)
              generalize (((w32.setCell ⟨gb719, 0, none⟩ (.int .i64 t716)).setCell ⟨gb719, 1, none⟩ (.int .i64 t717)).setCell ⟨gb719, 2, none⟩ (.string t718)) = w35 at n0_ n1_ n2_ ⊢
              have BK712 := n0_
              have BK719 := n1_
              have HB := n2_
              clear n0_ n1_ n2_
              have n0_ := aM (blk_drew BK712.out)
              have n1_ := aM (blk_drew BK719.out)
              have n2_ := aM (below_drew1 HB.out)
              clear BK712
              clear BK719
              clear HB
              have BK712 := n0_
              have BK719 := n1_
              have HB := n2_
              clear n0_ n1_ n2_
              refine start_ (n := 11) (S := fun w' => w'.cell? ⟨gb719, 0, none⟩ = some (.int .i64 t716) ∧ w'.cell? ⟨gb719, 1, none⟩ = some (.int .i64 t717) ∧ w'.cell? ⟨gb719, 2, none⟩ = some (.string t718)) (ds := []) #[false, false, false, false, false, false, false, false, false, false, false] (by kernel_rfl) rfl rfl ⟨(blk_cell BK719.out 0).trans rfl, (blk_cell BK719.out 1).trans rfl, (blk_cell BK719.out 2).trans rfl⟩ (fun hHeld => ?_); refine with_tabW tacticianref01_Parse.tab14 tacticianref01_Parse.bits14 (fun HT_ HW_ => ?_)
              generalize w35.drew = w36 at BK712 BK719 HB hHeld ⊢
              refine take_ (i := 0) (N := some 56) (v := ?_) (a' := ?_) #[true, false, false, false, false, false, false, false, false, false, false] rfl rfl (take_ofW HT_.out HW_.out (by kernel_rfl)) (fun _ _ _ h => h) (Or.inl ⟨by rfl, ?_⟩) hHeld ?_ ?_
              rotate_left
              ·rintro w' ⟨s0, s1, s2⟩
               go_simp
               with_reducible rfl
              rotate_left
              ·simp only [Act.put, List.setIfInBounds_toArray, List.set_cons_zero, List.set_cons_succ, i64_w, i32_w]
               rfl
              refine take_ (i := 1) (N := some 57) (v := ?_) (a' := ?_) #[true, true, false, false, false, false, false, false, false, false, false] rfl rfl (take_ofW HT_.out HW_.out (by kernel_rfl)) (fun _ _ _ h => h) (Or.inl ⟨by rfl, ?_⟩) hHeld ?_ ?_
              rotate_left
              ·rintro w' ⟨s0, s1, s2⟩
               go_simp
               with_reducible rfl
              rotate_left
              ·simp only [Act.put, List.setIfInBounds_toArray, List.set_cons_zero, List.set_cons_succ, i64_w, i32_w]
               rfl
              refine one_ (i := 2) (N := some 58) #[true, true, true, false, false, false, false, false, false, false, false] rfl rfl (one_of HT_.out (by kernel_rfl)) (by decide) (fun K hK => ?_)
              refine goes_ Tryz.func103 (by kernel_rfl) rfl #[.agg #[.int .i64 t716, .int .i64 t717, .string t718]] (by rfl) rfl rfl (by (try simp only [List.map_toArray, List.map_cons, List.map_nil]); first | done | rfl | (simp only [List.length_drop, List.length_take]; rfl)) ?_
              with_reducible refine (tacticianref01_Right_s.calls t716 t717 t718 true _ A28.out).mono ?_
              rintro e w37 ⟨rfl, hb⟩
              refine ⟨_, rfl, ?_⟩
              have n0_ := aM (blk_below (g := gb712) (o := .cells #[.int .i64 0, .int .i64 0, .string (⟨#[]⟩ : ByteArray)] 61 (0, 0)) (by (with_reducible repeat (first | refine zN ?_ _ | refine zD ?_ | refine zA ?_ _)); exact BK712.out) hb)
              have n1_ := aM (blk_below (g := gb719) (o := .cells #[.int .i64 t716, .int .i64 t717, .string t718] 61 (0, 0)) (by (with_reducible repeat (first | refine zN ?_ _ | refine zD ?_ | refine zA ?_ _)); exact BK719.out) hb)
              have n2_ := aM (below_step (by repeat (first | (with_reducible first | exact HB.out | apply yA | apply yN | apply yD | refine below_set ?_ GE712.out | refine below_set ?_ GE719.out) | exact HB.out)) hb)
              clear BK712
              clear BK719
              clear HB
              have BK712 := n0_
              have BK719 := n1_
              have HB := n2_
              clear n0_ n1_ n2_
              (try clear hb)
              (try clear hb2)
              (try clear hk)
              (try clear hi)
              refine hK.out _ _ ⟨(blk_cell BK719.out 0).trans rfl, (blk_cell BK719.out 1).trans rfl, (blk_cell BK719.out 2).trans rfl⟩ (fun hHeld => ?_)
              clear hK K
              refine norm_ (a' := ?_) ?_ ?_
              rotate_left
              ·show Act.put _ (some 58) _ = _
               simp only [Act.put, List.setIfInBounds_toArray, List.set_cons_zero, List.set_cons_succ, i64_w, i32_w]
               rfl
              refine pure_ (i := 3) (N := some 59) (v := ?_) (a' := ?_) #[true, true, true, true, false, false, false, false, false, false, false] rfl rfl (any_of HT_.out (by kernel_rfl)) (fun _ _ _ h => h) (Or.inl ⟨by rfl, ?_⟩) ?_ ?_
              rotate_left
              ·intro w'
               go_simp
               with_reducible rfl
              rotate_left
              ·simp only [Act.put, List.setIfInBounds_toArray, List.set_cons_zero, List.set_cons_succ, i64_w, i32_w]
               rfl
              refine pure_ (i := 6) (N := some 62) (v := ?_) (a' := ?_) #[true, true, true, true, false, false, true, false, false, false, false] rfl rfl (any_of HT_.out (by kernel_rfl)) (fun _ _ _ h => h) (Or.inl ⟨by rfl, ?_⟩) ?_ ?_
              rotate_left
              ·intro w'
               go_simp
               with_reducible rfl
              rotate_left
              ·simp only [Act.put, List.setIfInBounds_toArray, List.set_cons_zero, List.set_cons_succ, i64_w, i32_w]
               rfl
              refine take_ (i := 4) (N := some 60) (v := ?_) (a' := ?_) #[true, true, true, true, true, false, true, false, false, false, false] rfl rfl (take_ofW HT_.out HW_.out (by kernel_rfl)) (fun _ _ _ h => h) (Or.inl ⟨by rfl, ?_⟩) hHeld ?_ ?_
              rotate_left
              ·rintro w' ⟨s0, s1, s2⟩
               go_simp
               with_reducible rfl
              rotate_left
              ·simp only [Act.put, List.setIfInBounds_toArray, List.set_cons_zero, List.set_cons_succ, i64_w, i32_w]
               rfl
              refine one_ (i := 5) (N := some 61) #[true, true, true, true, true, true, true, false, false, false, false] rfl rfl (one_of HT_.out (by kernel_rfl)) (by decide) (fun K hK => ?_)
              refine goes_ Tryz.func119 (by kernel_rfl) rfl #[.agg #[.int .i64 t716, .int .i64 t717, .string t718]] (by rfl) rfl rfl (by (try simp only [List.map_toArray, List.map_cons, List.map_nil]); first | done | rfl | (simp only [List.length_drop, List.length_take]; rfl)) ?_
              with_reducible refine (tacticianref01_String_s.calls t716 t717 t718 t721 _ A30.out).mono ?_
              rintro e w38 ⟨rfl, hb⟩
              refine ⟨_, rfl, ?_⟩
              have n0_ := aM (blk_below (g := gb712) (o := .cells #[.int .i64 0, .int .i64 0, .string (⟨#[]⟩ : ByteArray)] 61 (0, 0)) (by (with_reducible repeat (first | refine zN ?_ _ | refine zD ?_ | refine zA ?_ _)); exact BK712.out) hb)
              have n1_ := aM (blk_below (g := gb719) (o := .cells #[.int .i64 t716, .int .i64 t717, .string t718] 61 (0, 0)) (by (with_reducible repeat (first | refine zN ?_ _ | refine zD ?_ | refine zA ?_ _)); exact BK719.out) hb)
              have n2_ := aM (below_step (by repeat (first | (with_reducible first | exact HB.out | apply yA | apply yN | apply yD | refine below_set ?_ GE712.out | refine below_set ?_ GE719.out) | exact HB.out)) hb)
              clear BK712
              clear BK719
              clear HB
              have BK712 := n0_
              have BK719 := n1_
              have HB := n2_
              clear n0_ n1_ n2_
              (try clear hb)
              (try clear hb2)
              (try clear hk)
              (try clear hi)
              refine hK.out _ _ ⟨(blk_cell BK719.out 0).trans rfl, (blk_cell BK719.out 1).trans rfl, (blk_cell BK719.out 2).trans rfl⟩ (fun hHeld => ?_)
              clear hK K
              refine norm_ (a' := ?_) ?_ ?_
              rotate_left
              ·show Act.put _ (some 61) _ = _
               simp only [Act.put, List.setIfInBounds_toArray, List.set_cons_zero, List.set_cons_succ, i64_w, i32_w]
               rfl
              refine pure_ (i := 7) (N := some 63) (v := ?_) (a' := ?_) #[true, true, true, true, true, true, true, true, false, false, false] rfl rfl (any_of HT_.out (by kernel_rfl)) (fun _ _ _ h => h) (Or.inl ⟨by rfl, ?_⟩) ?_ ?_
              rotate_left
              ·intro w'
               go_simp
               with_reducible rfl
              rotate_left
              ·simp only [Act.put, List.setIfInBounds_toArray, List.set_cons_zero, List.set_cons_succ, i64_w, i32_w]
               rfl
              refine pure_ (i := 8) (N := some 64) (v := ?_) (a' := ?_) #[true, true, true, true, true, true, true, true, true, false, false] rfl rfl (any_of HT_.out (by kernel_rfl)) (fun _ _ _ h => h) (Or.inl ⟨by rfl, ?_⟩) ?_ ?_
              rotate_left
              ·intro w'
               go_simp
               with_reducible rfl
              rotate_left
              ·simp only [Act.put, List.setIfInBounds_toArray, List.set_cons_zero, List.set_cons_succ, i64_w, i32_w]
               rfl
              refine one_ (i := 9) (N := none) #[true, true, true, true, true, true, true, true, true, true, false] rfl rfl (one_of HT_.out (by kernel_rfl)) (by decide) (fun K hK => ?_)
              have hs39 : w38.cell? ⟨gb712, 0, none⟩ = some (.int .i64 0) := (blk_cell BK712.out 0).trans rfl
              have hfs39 := blk_frozen BK712.out 0
              have hns39_1 := NB719_712.out
              have hms39_1 := NB712_719.out
              have hs40 : w38.cell? ⟨gb712, 1, none⟩ = some (.int .i64 0) := (blk_cell BK712.out 1).trans rfl
              have hfs40 := blk_frozen BK712.out 1
              have hns40_1 := NB719_712.out
              have hms40_1 := NB712_719.out
              have hs41 : w38.cell? ⟨gb712, 2, none⟩ = some (.string (⟨#[]⟩ : ByteArray)) := (blk_cell BK712.out 2).trans rfl
              have hfs41 := blk_frozen BK712.out 2
              have hns41_1 := NB719_712.out
              have hms41_1 := NB712_719.out
              refine skip_ (w1 := ?_) (by rfl) rfl ?_ ?_
              rotate_left
              ·go_simp
               rfl
              refine hK.out _ _ ⟨((cell_far (p := ⟨gb712, _, none⟩) NB719_712.out _).trans (((cell_far (p := ⟨gb712, _, none⟩) NB719_712.out _).trans (((cell_far (p := ⟨gb712, _, none⟩) NB719_712.out _).trans (hHeld.1)))))), ((cell_far (p := ⟨gb712, _, none⟩) NB719_712.out _).trans (((cell_far (p := ⟨gb712, _, none⟩) NB719_712.out _).trans (((cell_far (p := ⟨gb712, _, none⟩) NB719_712.out _).trans (hHeld.2.1)))))), ((cell_far (p := ⟨gb712, _, none⟩) NB719_712.out _).trans (((cell_far (p := ⟨gb712, _, none⟩) NB719_712.out _).trans (((cell_far (p := ⟨gb712, _, none⟩) NB719_712.out _).trans (hHeld.2.2))))))⟩ (fun hHeld => ?_)
              clear hK K
              refine pure_ (i := 10) (N := some 3) (v := ?_) (a' := ?_) #[true, true, true, true, true, true, true, true, true, true, true] rfl rfl (any_of HT_.out (by kernel_rfl)) (fun _ _ _ h => h) (Or.inl ⟨by rfl, ?_⟩) ?_ ?_
              rotate_left
              ·intro w'
               go_simp
               with_reducible rfl
              rotate_left
              ·simp only [Act.put, List.setIfInBounds_toArray, List.set_cons_zero, List.set_cons_succ, i64_w, i32_w]
               rfl
              refine done_ (done_of HT_.out (by kernel_rfl)) ?_
              try go_wp2
              refine bodyPost_ret (results_ct rfl _ _ gb712 61 #[.int .i64 t716, .int .i64 t717, .string t718] (0, 0) _ rfl (by (with_reducible repeat (first | refine zN ?_ _ | refine zD ?_ | refine zA ?_ _)); refine blk_put (cs := #[.int .i64 t716, .int .i64 t717, .string (⟨#[]⟩ : ByteArray)]) ?_ 2 _ rfl; (with_reducible repeat (first | refine zN ?_ _ | refine zD ?_ | refine zA ?_ _)); refine blk_put (cs := #[.int .i64 t716, .int .i64 0, .string (⟨#[]⟩ : ByteArray)]) ?_ 1 _ rfl; (with_reducible repeat (first | refine zN ?_ _ | refine zD ?_ | refine zA ?_ _)); refine blk_put (cs := #[.int .i64 0, .int .i64 0, .string (⟨#[]⟩ : ByteArray)]) ?_ 0 _ rfl; (with_reducible repeat (first | refine zN ?_ _ | refine zD ?_ | refine zA ?_ _)); exact BK712.out) Tryz.underlying61 rfl (by kernel_rfl)) rfl ?_
              exact ⟨by first | rfl | (simp [errW_none, errW_some] <;> rfl) | (simp [*, errW_none, errW_some] <;> rfl), by repeat (first | (with_reducible first | exact HB.out | apply yA | apply yN | apply yD | refine below_set ?_ GE712.out | refine below_set ?_ GE719.out) | exact HB.out)⟩
             ·replace c29 := Bool.eq_false_iff.mpr c29
              subst c29
              have H1 : (some (t716, t717, t718, false)) = some (r1, r2, r3, r4) := by rw [if_neg (show ¬ (false = true) by decide)] at H; exact H
              clear H
              have H := H1
              clear H1
              simp only [Option.some.injEq, Prod.mk.injEq] at H
              obtain ⟨rfl, rfl, rfl, rfl⟩ := H
              try go_wp2_with (first | ((with_reducible refine gate_callee (f := 143) rfl ?_); refine goesL_ (some 55) rfl rfl Tryz.func143 (by kernel_rfl) rfl #[.string x4_3] rfl (by (try simp only [List.map_toArray, List.map_cons, List.map_nil]); first | done | rfl | (simp only [List.length_drop, List.length_take]; rfl)) ?_; (with_reducible refine (tacticianref01_Text.calls x4_3 t716 t717 t718 _ A27.out).mono ?_); rintro e w42 ⟨rfl, hb⟩; refine ⟨_, rfl, ?_⟩; have n0_ := aM (blk_below (g := gb712) (o := .cells #[.int .i64 0, .int .i64 0, .string (⟨#[]⟩ : ByteArray)] 61 (0, 0)) (by (with_reducible repeat (first | refine zN ?_ _ | refine zD ?_ | refine zA ?_ _)); exact BK712.out) hb); have n1_ := aM (below_step (by repeat (first | (with_reducible first | exact HB.out | apply yA | apply yN | apply yD | refine below_set ?_ GE712.out) | exact HB.out)) hb); clear BK712; clear HB; have BK712 := n0_; have HB := n1_; clear n0_ n1_; (try clear hb); (try clear hb2); (try clear hk); (try clear hi)) | ((with_reducible refine gate_dst (N := 6) rfl ?_); (try (refine gate_guard (by rfl) ?_; dsimp only)); refine box_event ?hg (N := 6) ?hd (cs := #[.int .i64 0, .int .i64 0, .string (⟨#[]⟩ : ByteArray)]) (t := 61) ?hr ?_; (case hd => rfl); (case hg => rfl); (case hr => first | (go_simp; done) | (go_simp; rfl)); intro gb719 hg w43 hbox hb; have n0_ := aM (blk_below (g := gb712) (o := .cells #[.int .i64 0, .int .i64 0, .string (⟨#[]⟩ : ByteArray)] 61 (0, 0)) (by (with_reducible repeat (first | refine zN ?_ _ | refine zD ?_ | refine zA ?_ _)); exact BK712.out) hb); have n1_ := aM (below_step (by repeat (first | (with_reducible first | exact HB.out | apply yA | apply yN | apply yD | refine below_set ?_ GE712.out) | exact HB.out)) hb); have n2_ := aM (hbox); have n3_ := aM ((by rw [hg]; exact (below_size (by repeat (first | (with_reducible first | exact HB.out | apply yA | apply yN | apply yD | refine below_set ?_ GE712.out) | exact HB.out))) : w.heap.size ≤ gb719)); have n4_ := n3_; have n5_ := aM ((by rw [hg]; exact Nat.ne_of_lt (blk_lt (g := gb712) (o := .cells #[.int .i64 0, .int .i64 0, .string (⟨#[]⟩ : ByteArray)] 61 (0, 0)) (by (with_reducible repeat (first | refine zN ?_ _ | refine zD ?_ | refine zA ?_ _)); exact BK712.out)) : gb712 ≠ gb719)); have n6_ := aM n5_.out.symm; clear BK712; clear HB; have BK712 := n0_; have HB := n1_; have BK719 := n2_; have GW719 := n3_; have GE719 := n4_; have NB712_719 := n5_; have NB719_712 := n6_; clear n0_ n1_ n2_ n3_ n4_ n5_ n6_; clear hb hbox hg; have hnb44 := NB719_712.out; have hnc44 := NB712_719.out; have hcz45_0 : w43.cell? ⟨gb719, 0, none⟩ = some (.int .i64 0) := (blk_cell BK719.out 0).trans rfl; have hcz45_1 : w43.cell? ⟨gb719, 1, none⟩ = some (.int .i64 0) := (blk_cell BK719.out 1).trans rfl; have hcz45_2 : w43.cell? ⟨gb719, 2, none⟩ = some (.string (⟨#[]⟩ : ByteArray)) := (blk_cell BK719.out 2).trans rfl; have hfz45_0 := blk_frozen BK719.out 0; have hfz45_1 := blk_frozen BK719.out 1; have hfz45_2 := blk_frozen BK719.out 2))
              have n0_ : Aside0 ((((w43.setCell ⟨gb719, 0, none⟩ (.int .i64 t716)).setCell ⟨gb719, 1, none⟩ (.int .i64 t717)).setCell ⟨gb719, 2, none⟩ (.string t718)).heap[gb712]? = some (.cells #[.int .i64 0, .int .i64 0, .string (⟨#[]⟩ : ByteArray)] 61 (0, 0))) := ⟨by (with_reducible repeat (first | refine zN ?_ _ | refine zD ?_ | refine zA ?_ _)); refine blk_far ?_ NB712_719.out _; (with_reducible repeat (first | refine zN ?_ _ | refine zD ?_ | refine zA ?_ _)); refine blk_far ?_ NB712_719.out _; (with_reducible repeat (first | refine zN ?_ _ | refine zD ?_ | refine zA ?_ _)); refine blk_far ?_ NB712_719.out _; (with_reducible repeat (first | refine zN ?_ _ | refine zD ?_ | refine zA ?_ _)); exact BK712.out⟩
              have n1_ : Aside0 ((((w43.setCell ⟨gb719, 0, none⟩ (.int .i64 t716)).setCell ⟨gb719, 1, none⟩ (.int .i64 t717)).setCell ⟨gb719, 2, none⟩ (.string t718)).heap[gb719]? = some (.cells #[.int .i64 t716, .int .i64 t717, .string t718] 61 (0, 0))) := ⟨by (with_reducible repeat (first | refine zN ?_ _ | refine zD ?_ | refine zA ?_ _)); refine blk_put (cs := #[.int .i64 t716, .int .i64 t717, .string (⟨#[]⟩ : ByteArray)]) ?_ 2 _ rfl; (with_reducible repeat (first | refine zN ?_ _ | refine zD ?_ | refine zA ?_ _)); refine blk_put (cs := #[.int .i64 t716, .int .i64 0, .string (⟨#[]⟩ : ByteArray)]) ?_ 1 _ rfl; (with_reducible repeat (first | refine zN ?_ _ | refine zD ?_ | refine zA ?_ _)); refine blk_put (cs := #[.int .i64 0, .int .i64 0, .string (⟨#[]⟩ : ByteArray)]) ?_ 0 _ rfl; (with_reducible repeat (first | refine zN ?_ _ | refine zD ?_ | refine zA ?_ _)); exact BK719.out⟩
              have n2_ : Aside0 (Below w.heap.size w (((w43.setCell ⟨gb719, 0, none⟩ (.int .i64 t716)).setCell ⟨gb719, 1, none⟩ (.int .i64 t717)).setCell ⟨gb719, 2, none⟩ (.string t718))) := ⟨by repeat (first | (with_reducible first | exact HB.out | apply yA | apply yN | apply yD | refine below_set ?_ GE712.out | refine below_set ?_ GE719.out) | exact HB.out)⟩
              (try clear BK712)
              (try clear BK719)
              (try clear HB)
              generalize (((w43.setCell ⟨gb719, 0, none⟩ (.int .i64 t716)).setCell ⟨gb719, 1, none⟩ (.int .i64 t717)).setCell ⟨gb719, 2, none⟩ (.string t718)) = w46 at n0_ n1_ n2_ ⊢
              have BK712 := n0_
              have BK719 := n1_
              have HB := n2_
              clear n0_ n1_ n2_
              have n0_ := aM (blk_drew BK712.out)
              have n1_ := aM (blk_drew BK719.out)
              have n2_ := aM (below_drew1 HB.out)
              clear BK712
              clear BK719
              clear HB
              have BK712 := n0_
              have BK719 := n1_
              have HB := n2_
              clear n0_ n1_ n2_
              refine start_ (n := 11) (S := fun w' => w'.cell? ⟨gb719, 0, none⟩ = some (.int .i64 t716) ∧ w'.cell? ⟨gb719, 1, none⟩ = some (.int .i64 t717) ∧ w'.cell? ⟨gb719, 2, none⟩ = some (.string t718)) (ds := []) #[false, false, false, false, false, false, false, false, false, false, false] (by kernel_rfl) rfl rfl ⟨(blk_cell BK719.out 0).trans rfl, (blk_cell BK719.out 1).trans rfl, (blk_cell BK719.out 2).trans rfl⟩ (fun hHeld => ?_); refine with_tabW tacticianref01_Parse.tab14 tacticianref01_Parse.bits14 (fun HT_ HW_ => ?_)
              generalize w46.drew = w47 at BK712 BK719 HB hHeld ⊢
              refine take_ (i := 0) (N := some 56) (v := ?_) (a' := ?_) #[true, false, false, false, false, false, false, false, false, false, false] rfl rfl (take_ofW HT_.out HW_.out (by kernel_rfl)) (fun _ _ _ h => h) (Or.inl ⟨by rfl, ?_⟩) hHeld ?_ ?_
              rotate_left
              ·rintro w' ⟨s0, s1, s2⟩
               go_simp
               with_reducible rfl
              rotate_left
              ·simp only [Act.put, List.setIfInBounds_toArray, List.set_cons_zero, List.set_cons_succ, i64_w, i32_w]
               rfl
              refine take_ (i := 1) (N := some 57) (v := ?_) (a' := ?_) #[true, true, false, false, false, false, false, false, false, false, false] rfl rfl (take_ofW HT_.out HW_.out (by kernel_rfl)) (fun _ _ _ h => h) (Or.inl ⟨by rfl, ?_⟩) hHeld ?_ ?_
              rotate_left
              ·rintro w' ⟨s0, s1, s2⟩
               go_simp
               with_reducible rfl
              rotate_left
              ·simp only [Act.put, List.setIfInBounds_toArray, List.set_cons_zero, List.set_cons_succ, i64_w, i32_w]
               rfl
              refine one_ (i := 2) (N := some 58) #[true, true, true, false, false, false, false, false, false, false, false] rfl rfl (one_of HT_.out (by kernel_rfl)) (by decide) (fun K hK => ?_)
              refine goes_ Tryz.func103 (by kernel_rfl) rfl #[.agg #[.int .i64 t716, .int .i64 t717, .string t718]] (by rfl) rfl rfl (by (try simp only [List.map_toArray, List.map_cons, List.map_nil]); first | done | rfl | (simp only [List.length_drop, List.length_take]; rfl)) ?_
              with_reducible refine (tacticianref01_Right_s.calls t716 t717 t718 false _ A28.out).mono ?_
              rintro e w48 ⟨rfl, hb⟩
              refine ⟨_, rfl, ?_⟩
              have n0_ := aM (blk_below (g := gb712) (o := .cells #[.int .i64 0, .int .i64 0, .string (⟨#[]⟩ : ByteArray)] 61 (0, 0)) (by (with_reducible repeat (first | refine zN ?_ _ | refine zD ?_ | refine zA ?_ _)); exact BK712.out) hb)
              have n1_ := aM (blk_below (g := gb719) (o := .cells #[.int .i64 t716, .int .i64 t717, .string t718] 61 (0, 0)) (by (with_reducible repeat (first | refine zN ?_ _ | refine zD ?_ | refine zA ?_ _)); exact BK719.out) hb)
              have n2_ := aM (below_step (by repeat (first | (with_reducible first | exact HB.out | apply yA | apply yN | apply yD | refine below_set ?_ GE712.out | refine below_set ?_ GE719.out) | exact HB.out)) hb)
              clear BK712
              clear BK719
              clear HB
              have BK712 := n0_
              have BK719 := n1_
              have HB := n2_
              clear n0_ n1_ n2_
              (try clear hb)
              (try clear hb2)
              (try clear hk)
              (try clear hi)
              refine hK.out _ _ ⟨(blk_cell BK719.out 0).trans rfl, (blk_cell BK719.out 1).trans rfl, (blk_cell BK719.out 2).trans rfl⟩ (fun hHeld => ?_)
              clear hK K
              refine norm_ (a' := ?_) ?_ ?_
              rotate_left
              ·show Act.put _ (some 58) _ = _
               simp only [Act.put, List.setIfInBounds_toArray, List.set_cons_zero, List.set_cons_succ, i64_w, i32_w]
               rfl
              refine pure_ (i := 3) (N := some 59) (v := ?_) (a' := ?_) #[true, true, true, true, false, false, false, false, false, false, false] rfl rfl (any_of HT_.out (by kernel_rfl)) (fun _ _ _ h => h) (Or.inl ⟨by rfl, ?_⟩) ?_ ?_
              rotate_left
              ·intro w'
               go_simp
               with_reducible rfl
              rotate_left
              ·simp only [Act.put, List.setIfInBounds_toArray, List.set_cons_zero, List.set_cons_succ, i64_w, i32_w]
               rfl
              refine pure_ (i := 4) (N := some 60) (v := undef) (a' := ?_) #[true, true, true, true, true, false, false, false, false, false, false] rfl rfl (any_of HT_.out (by kernel_rfl)) (fun _ _ _ h => h) (Or.inr ⟨by rfl, rfl⟩) ?_ ?_
              rotate_left
              ·simp only [Act.put, List.setIfInBounds_toArray, List.set_cons_zero, List.set_cons_succ, i64_w, i32_w]
               rfl
              refine pure_ (i := 5) (N := some 61) (v := undef) (a' := ?_) #[true, true, true, true, true, true, false, false, false, false, false] rfl rfl (any_of HT_.out (by kernel_rfl)) (fun _ _ _ h => h) (Or.inr ⟨by rfl, rfl⟩) ?_ ?_
              rotate_left
              ·simp only [Act.put, List.setIfInBounds_toArray, List.set_cons_zero, List.set_cons_succ, i64_w, i32_w]
               rfl
              refine pure_ (i := 6) (N := some 62) (v := undef) (a' := ?_) #[true, true, true, true, true, true, true, false, false, false, false] rfl rfl (any_of HT_.out (by kernel_rfl)) (fun _ _ _ h => h) (Or.inr ⟨by rfl, rfl⟩) ?_ ?_
              rotate_left
              ·simp only [Act.put, List.setIfInBounds_toArray, List.set_cons_zero, List.set_cons_succ, i64_w, i32_w]
               rfl
              refine pure_ (i := 7) (N := some 63) (v := undef) (a' := ?_) #[true, true, true, true, true, true, true, true, false, false, false] rfl rfl (any_of HT_.out (by kernel_rfl)) (fun _ _ _ h => h) (Or.inr ⟨by rfl, rfl⟩) ?_ ?_
              rotate_left
              ·simp only [Act.put, List.setIfInBounds_toArray, List.set_cons_zero, List.set_cons_succ, i64_w, i32_w]
               rfl
              refine pure_ (i := 8) (N := some 64) (v := ?_) (a' := ?_) #[true, true, true, true, true, true, true, true, true, false, false] rfl rfl (any_of HT_.out (by kernel_rfl)) (fun _ _ _ h => h) (Or.inl ⟨by rfl, ?_⟩) ?_ ?_
              rotate_left
              ·intro w'
               go_simp
               with_reducible rfl
              rotate_left
              ·simp only [Act.put, List.setIfInBounds_toArray, List.set_cons_zero, List.set_cons_succ, i64_w, i32_w]
               rfl
              refine one_ (i := 9) (N := none) #[true, true, true, true, true, true, true, true, true, true, false] rfl rfl (one_of HT_.out (by kernel_rfl)) (by decide) (fun K hK => ?_)
              have hs49 : w48.cell? ⟨gb712, 0, none⟩ = some (.int .i64 0) := (blk_cell BK712.out 0).trans rfl
              have hfs49 := blk_frozen BK712.out 0
              have hns49_1 := NB719_712.out
              have hms49_1 := NB712_719.out
              have hs50 : w48.cell? ⟨gb712, 1, none⟩ = some (.int .i64 0) := (blk_cell BK712.out 1).trans rfl
              have hfs50 := blk_frozen BK712.out 1
              have hns50_1 := NB719_712.out
              have hms50_1 := NB712_719.out
              have hs51 : w48.cell? ⟨gb712, 2, none⟩ = some (.string (⟨#[]⟩ : ByteArray)) := (blk_cell BK712.out 2).trans rfl
              have hfs51 := blk_frozen BK712.out 2
              have hns51_1 := NB719_712.out
              have hms51_1 := NB712_719.out
              refine skip_ (w1 := ?_) (by rfl) rfl ?_ ?_
              rotate_left
              ·go_simp
               rfl
              refine hK.out _ _ ⟨((cell_far (p := ⟨gb712, _, none⟩) NB719_712.out _).trans (((cell_far (p := ⟨gb712, _, none⟩) NB719_712.out _).trans (((cell_far (p := ⟨gb712, _, none⟩) NB719_712.out _).trans (hHeld.1)))))), ((cell_far (p := ⟨gb712, _, none⟩) NB719_712.out _).trans (((cell_far (p := ⟨gb712, _, none⟩) NB719_712.out _).trans (((cell_far (p := ⟨gb712, _, none⟩) NB719_712.out _).trans (hHeld.2.1)))))), ((cell_far (p := ⟨gb712, _, none⟩) NB719_712.out _).trans (((cell_far (p := ⟨gb712, _, none⟩) NB719_712.out _).trans (((cell_far (p := ⟨gb712, _, none⟩) NB719_712.out _).trans (hHeld.2.2))))))⟩ (fun hHeld => ?_)
              clear hK K
              refine pure_ (i := 10) (N := some 3) (v := ?_) (a' := ?_) #[true, true, true, true, true, true, true, true, true, true, true] rfl rfl (any_of HT_.out (by kernel_rfl)) (fun _ _ _ h => h) (Or.inl ⟨by rfl, ?_⟩) ?_ ?_
              rotate_left
              ·intro w'
               go_simp
               with_reducible rfl
              rotate_left
              ·simp only [Act.put, List.setIfInBounds_toArray, List.set_cons_zero, List.set_cons_succ, i64_w, i32_w]
               rfl
              refine done_ (done_of HT_.out (by kernel_rfl)) ?_
              try go_wp2
              refine bodyPost_ret (results_ct rfl _ _ gb712 61 #[.int .i64 t716, .int .i64 t717, .string t718] (0, 0) _ rfl (by (with_reducible repeat (first | refine zN ?_ _ | refine zD ?_ | refine zA ?_ _)); refine blk_put (cs := #[.int .i64 t716, .int .i64 t717, .string (⟨#[]⟩ : ByteArray)]) ?_ 2 _ rfl; (with_reducible repeat (first | refine zN ?_ _ | refine zD ?_ | refine zA ?_ _)); refine blk_put (cs := #[.int .i64 t716, .int .i64 0, .string (⟨#[]⟩ : ByteArray)]) ?_ 1 _ rfl; (with_reducible repeat (first | refine zN ?_ _ | refine zD ?_ | refine zA ?_ _)); refine blk_put (cs := #[.int .i64 0, .int .i64 0, .string (⟨#[]⟩ : ByteArray)]) ?_ 0 _ rfl; (with_reducible repeat (first | refine zN ?_ _ | refine zD ?_ | refine zA ?_ _)); exact BK712.out) Tryz.underlying61 rfl (by kernel_rfl)) rfl ?_
              exact ⟨by first | rfl | (simp [errW_none, errW_some] <;> rfl) | (simp [*, errW_none, errW_some] <;> rfl), by repeat (first | (with_reducible first | exact HB.out | apply yA | apply yN | apply yD | refine below_set ?_ GE712.out | refine below_set ?_ GE719.out) | exact HB.out)⟩
       ·replace c16 := Bool.eq_false_iff.mpr c16
        subst c16
        have H1 : ((tacticianref01_Number.f kj11 a0).bind fun bt722 => ((tacticianref01_Int.f bt722.1).bind fun bt724 => (some (bt724.1, bt724.2.1, bt724.2.2, bt722.2)))) = some (r1, r2, r3, r4) := by rw [if_neg (show ¬ (false = true) by decide)] at H; exact H
        clear H
        have H := H1
        clear H1
        replace H := Option.bind_eq_some_iff.mp H
        obtain ⟨⟨t722, t723⟩, A520, H⟩ := H
        replace H : ((tacticianref01_Int.f t722).bind fun bt724 => (some (bt724.1, bt724.2.1, bt724.2.2, t723))) = some (r1, r2, r3, r4) := H
        have A52 := aM A520
        clear A520
        replace H := Option.bind_eq_some_iff.mp H
        obtain ⟨⟨t724, t725, t726⟩, A530, H⟩ := H
        replace H : (some (t724, t725, t726, t723)) = some (r1, r2, r3, r4) := H
        have A53 := aM A530
        clear A530
        simp only [Option.some.injEq, Prod.mk.injEq] at H
        obtain ⟨rfl, rfl, rfl, rfl⟩ := H
        go_wp2_with (first | ((with_reducible refine gate_callee (f := 168) rfl ?_); refine goesL_ (some 67) rfl rfl Tryz.func168 (by kernel_rfl) rfl #[.string a0] rfl (by (try simp only [List.map_toArray, List.map_cons, List.map_nil]); first | done | rfl | (simp only [List.length_drop, List.length_take]; rfl)) ?_; (with_reducible refine (tacticianref01_Number.calls kj11 a0 t722 t723 _ A52.out).mono ?_); rintro e w54 ⟨rfl, hb⟩; refine ⟨_, rfl, ?_⟩; have n0_ := aM (blk_below (g := gb712) (o := .cells #[.int .i64 0, .int .i64 0, .string (⟨#[]⟩ : ByteArray)] 61 (0, 0)) (by (with_reducible repeat (first | refine zN ?_ _ | refine zD ?_ | refine zA ?_ _)); exact BK712.out) hb); have n1_ := aM (below_step (by repeat (first | (with_reducible first | exact HB.out | apply yA | apply yN | apply yD | refine below_set ?_ GE712.out) | exact HB.out)) hb); clear BK712; clear HB; have BK712 := n0_; have HB := n1_; clear n0_ n1_; (try clear hb); (try clear hb2); (try clear hk); (try clear hi)) | ((with_reducible refine gate_callee (f := 41) rfl ?_); refine goesL_ (some 71) rfl rfl Tryz.func41 (by kernel_rfl) rfl #[.int .i64 t722] rfl (by (try simp only [List.map_toArray, List.map_cons, List.map_nil]); first | done | rfl | (simp only [List.length_drop, List.length_take]; rfl)) ?_; (with_reducible refine (tacticianref01_Int.calls t722 t724 t725 t726 _ A53.out).mono ?_); rintro e w55 ⟨rfl, hb⟩; refine ⟨_, rfl, ?_⟩; have n0_ := aM (blk_below (g := gb712) (o := .cells #[.int .i64 0, .int .i64 0, .string (⟨#[]⟩ : ByteArray)] 61 (0, 0)) (by (with_reducible repeat (first | refine zN ?_ _ | refine zD ?_ | refine zA ?_ _)); exact BK712.out) hb); have n1_ := aM (below_step (by repeat (first | (with_reducible first | exact HB.out | apply yA | apply yN | apply yD | refine below_set ?_ GE712.out) | exact HB.out)) hb); clear BK712; clear HB; have BK712 := n0_; have HB := n1_; clear n0_ n1_; (try clear hb); (try clear hb2); (try clear hk); (try clear hi); have hcz56_0 : w55.cell? ⟨gb712, 0, none⟩ = some (.int .i64 0) := (blk_cell BK712.out 0).trans rfl; have hcz56_1 : w55.cell? ⟨gb712, 1, none⟩ = some (.int .i64 0) := (blk_cell BK712.out 1).trans rfl; have hcz56_2 : w55.cell? ⟨gb712, 2, none⟩ = some (.string (⟨#[]⟩ : ByteArray)) := (blk_cell BK712.out 2).trans rfl; have hfz56_0 := blk_frozen BK712.out 0; have hfz56_1 := blk_frozen BK712.out 1; have hfz56_2 := blk_frozen BK712.out 2))
        refine bodyPost_ret (results_ct rfl _ _ gb712 61 #[.int .i64 t724, .int .i64 t725, .string t726] (0, 0) _ rfl (by (with_reducible repeat (first | refine zN ?_ _ | refine zD ?_ | refine zA ?_ _)); refine blk_put (cs := #[.int .i64 t724, .int .i64 t725, .string (⟨#[]⟩ : ByteArray)]) ?_ 2 _ rfl; (with_reducible repeat (first | refine zN ?_ _ | refine zD ?_ | refine zA ?_ _)); refine blk_put (cs := #[.int .i64 t724, .int .i64 0, .string (⟨#[]⟩ : ByteArray)]) ?_ 1 _ rfl; (with_reducible repeat (first | refine zN ?_ _ | refine zD ?_ | refine zA ?_ _)); refine blk_put (cs := #[.int .i64 0, .int .i64 0, .string (⟨#[]⟩ : ByteArray)]) ?_ 0 _ rfl; (with_reducible repeat (first | refine zN ?_ _ | refine zD ?_ | refine zA ?_ _)); exact BK712.out) Tryz.underlying61 rfl (by kernel_rfl)) rfl ?_
        exact ⟨by first | rfl | (simp [errW_none, errW_some] <;> rfl) | (simp [*, errW_none, errW_some] <;> rfl), by repeat (first | (with_reducible first | exact HB.out | apply yA | apply yN | apply yD | refine below_set ?_ GE712.out) | exact HB.out)⟩
end Go.Proofs.YtmhobbdedmjmnaaGreatDoor.Q
end
section
namespace Go.Proofs.YtmhobbdedmjmnaaGreatDoor
open Go.RowKit Go.Proofs.YtmhobbdedmjmnaaGreatDoor.Q Go.Proofs.YtmhobbdedmjmnaaGreatDoorW.PrintWords Go.Proofs.YtmhobbdedmjmnaaGreatDoorW.PrintLast Go.Proofs.YtmhobbdedmjmnaaGreatDoorW.PrintMore
def foldN (n : Int) : List UInt8 → Int
  | [] => n
  | c :: r => foldN (if 48 ≤ c.toNat ∧ c.toNat ≤ 57 then wrap64 (wrap64 (n * 10) - ((c.toNat : Int) - 48)) else n) r
theorem foldN_cons (n : Int) (c : UInt8) (r : List UInt8) : foldN n (c :: r) = foldN (if 48 ≤ c.toNat ∧ c.toNat ≤ 57 then wrap64 (wrap64 (n * 10) - ((c.toNat : Int) - 48)) else n) r := rfl
def numR (s : ByteArray) : Int × Bool :=
  let n := foldN 0 s.data.toList
  if ofL (Lib.itoa n) = s then (n, true) else if n = -9223372036854775808 then (0, false) else if ofL (Lib.itoa (wrap64 (-n))) = s then (wrap64 (-n), true) else (0, false)
theorem wrap_in (n : Int) : inI64 (wrap64 n) = true := inI64_mk (by unfold wrap64; omega) (by unfold wrap64; omega)
theorem foldN_in : ∀ (l : List UInt8) (n : Int), inI64 n = true → inI64 (foldN n l) = true := by
  intro l
  induction l with
  | nil => intro n h; exact h
  | cons c r ih =>
    intro n h
    unfold foldN
    split
    · exact ih _ (wrap_in _)
    · exact ih _ h
theorem toList_eq_iff (a b : ByteArray) : a.toList = b.toList ↔ a = b := by
  rw [ByteArray.toList_eq, ByteArray.toList_eq]
  exact ⟨fun h => ba_ext h, fun h => by rw [h]⟩
theorem number_loop (s : ByteArray) (hs : s.size ≤ 5000) : ∀ (d i k : Nat) (n : Int), inI64 n = true → i + d = s.size → d < k →
    foldN n (s.data.toList.drop i) = foldN 0 s.data.toList → tacticianref01_Number.l0 k s n (i : Int) = some (numR s) := by
  intro d
  induction d with
  | zero =>
    intro i k n hn hi hk hf
    obtain ⟨k, rfl⟩ : ∃ m, k = m + 1 := ⟨k - 1, by omega⟩
    rw [List.drop_of_length_le (by rw [Array.length_toList]; exact Nat.le_of_eq hi.symm)] at hf
    have hf : n = foldN 0 s.data.toList := hf
    simp only [tacticianref01_Number.l0, tacticianref01_Digits_s.f, toList_eq_iff]
    rw [if_neg (by omega), if_pos hn, if_pos (wrap_in _)]
    simp only [Option.bind_some]
    unfold numR
    simp only [← hf]
    split
    · rfl
    · split
      · rfl
      · split <;> rfl
  | succ d ih =>
    intro i k n hn hi hk hf
    obtain ⟨k, rfl⟩ : ∃ m, k = m + 1 := ⟨k - 1, by omega⟩
    have hlt : i < s.size := by omega
    rw [List.drop_eq_getElem_cons (by rw [Array.length_toList]; exact hlt)] at hf
    have hb := bt_get s i hlt
    generalize s.data.toList[i]'(by rw [Array.length_toList]; exact hlt) = c at hf hb
    have hc : c.toNat < 256 := c.toNat_lt
    simp only [tacticianref01_Number.l0]
    rw [if_pos (by omega), if_pos (by omega), hb, wrap_small (n := (i : Int) + 1) (by omega) (by omega), show ((i : Int) + 1) = ((i + 1 : Nat) : Int) by omega]
    rw [foldN_cons] at hf
    by_cases h1 : 48 ≤ c.toNat
    · by_cases h2 : c.toNat ≤ 57
      · rw [if_pos (by omega), if_pos (by omega), show ((c.toNat : Int) - 48) % 256 = (c.toNat : Int) - 48 by omega]
        rw [if_pos ⟨h1, h2⟩] at hf
        exact ih (i + 1) k _ (wrap_in _) (by omega) (by omega) hf
      · rw [if_pos (by omega), if_neg (by omega)]
        rw [if_neg (fun z => h2 z.2)] at hf
        exact ih (i + 1) k _ hn (by omega) (by omega) hf
    · rw [if_neg (by omega)]
      rw [if_neg (fun z => h1 z.1)] at hf
      exact ih (i + 1) k _ hn (by omega) (by omega) hf
theorem number_at (s : ByteArray) (hs : s.size ≤ 5000) (k : Nat) (hk : 1002 < k) : tacticianref01_Number.f k s = some (if s.size = 0 ∨ 20 < s.size then (0, false) else numR s) := by
  obtain ⟨k, rfl⟩ : ∃ m, k = m + 1 := ⟨k - 1, by omega⟩
  have ej : ∀ b, tacticianref01_Number.j0 (k + 1) s b = if b = true then some (0, false) else tacticianref01_Number.l0 k s 0 0 := by intro b; simp only [tacticianref01_Number.j0]
  unfold tacticianref01_Number.f
  rw [ej, ej]
  by_cases h0 : s.size = 0
  · rw [if_pos (show (s.size : Int) = 0 by omega), if_pos rfl, if_pos (Or.inl h0 : s.size = 0 ∨ 20 < s.size)]
  · rw [if_neg (show ¬ (s.size : Int) = 0 by omega)]
    by_cases h1 : 20 < s.size
    · rw [show decide ((s.size : Int) > 20) = true from decide_eq_true (by omega), if_pos rfl, if_pos (Or.inr h1 : s.size = 0 ∨ 20 < s.size)]
    · rw [show decide ((s.size : Int) > 20) = false from decide_eq_false (by omega), if_neg (by simp), if_neg (show ¬ (s.size = 0 ∨ 20 < s.size) by omega)]
      exact number_loop s hs s.size 0 k 0 (by decide) (by omega) (by omega) (by simp)
theorem foldN_digits (u : Nat) : ∀ n : Int, u ≤ 9223372036854775808 → (∀ l, n = 0 → foldN n (Lib.decDigits u ++ l) = foldN (-(u : Int)) l) := by
  induction u using Nat.strongRecOn with
  | _ u ih =>
    intro n hu l hn
    subst hn
    have hd : ∀ z, z < 10 → (UInt8.ofNat (48 + z)).toNat = 48 + z := by intro z hz; rw [UInt8.toNat_ofNat']; omega
    rw [Lib.decDigits]
    split
    · rename_i h
      simp only [List.cons_append, List.nil_append, foldN]
      rw [hd u h, if_pos (by omega)]
      congr 1
      unfold wrap64
      omega
    · rename_i h
      rw [List.append_assoc, ih (u / 10) (by omega) 0 (by omega) _ rfl]
      simp only [List.cons_append, List.nil_append, foldN]
      rw [hd _ (by omega), if_pos (by omega)]
      congr 1
      unfold wrap64
      omega
theorem foldN_itoa (m : Int) (h : inI64 m = true) : foldN 0 (Lib.itoa m) = -(m.natAbs : Int) := by
  obtain ⟨h0, h1⟩ := inI64_bd h
  rcases itoa_cases m with ⟨_, e⟩ | ⟨_, e⟩
  · rw [e]
    have : foldN 0 (45 :: Lib.decDigits m.natAbs) = foldN 0 (Lib.decDigits m.natAbs) := by
      rw [foldN_cons]
      rw [if_neg (by decide : ¬ (48 ≤ (45 : UInt8).toNat ∧ (45 : UInt8).toNat ≤ 57))]
    rw [this]
    have := foldN_digits m.natAbs 0 (by omega) [] rfl
    rw [List.append_nil] at this
    exact this
  · rw [e]
    have := foldN_digits m.natAbs 0 (by omega) [] rfl
    rw [List.append_nil] at this
    exact this
theorem digits_len (u : Nat) : ∀ d, u < 10 ^ (d + 1) → (Lib.decDigits u).length ≤ d + 1 := by
  induction u using Nat.strongRecOn with
  | _ u ih =>
    intro d hu
    rw [Lib.decDigits]
    split
    · simp
    · rename_i h
      cases d with
      | zero => simp at hu; omega
      | succ d =>
        have := ih (u / 10) (by omega) d (by rw [Nat.pow_succ] at hu; omega)
        simp only [List.length_append, List.length_cons, List.length_nil]
        omega
theorem itoa_len (m : Int) (h : inI64 m = true) : 0 < (Lib.itoa m).length ∧ (Lib.itoa m).length ≤ 20 := by
  obtain ⟨h0, h1⟩ := inI64_bd h
  have hp : (10 : Nat) ^ (18 + 1) = 10000000000000000000 := rfl
  have hl := digits_len m.natAbs 18 (by rw [hp]; omega)
  have hne : 0 < (Lib.decDigits m.natAbs).length := List.length_pos_iff.2 (decDigits_ne _)
  rcases itoa_cases m with ⟨_, e⟩ | ⟨_, e⟩
  · rw [e]; simp only [List.length_cons]; omega
  · rw [e]; omega
theorem itoa_inj {m n : Int} (hm : inI64 m = true) (hn : inI64 n = true) (h : ofL (Lib.itoa m) = ofL (Lib.itoa n)) : m = n :=
  (writ_inj (a := 1) (a' := 1) (b := m) (b' := n) (c := ⟨#[]⟩) (c' := ⟨#[]⟩) (by unfold okV; rw [hm]; rfl) (by unfold okV; rw [hn]; rfl) h).2.1
theorem numR_true {s : ByteArray} {n : Int} (h : numR s = (n, true)) : inI64 n = true ∧ ofL (Lib.itoa n) = s := by
  unfold numR at h
  simp only at h
  have hin : inI64 (foldN 0 s.data.toList) = true := foldN_in _ _ (by decide)
  split at h
  · rename_i e
    obtain ⟨rfl, _⟩ := Prod.mk.inj h
    exact ⟨hin, e⟩
  · split at h
    · cases h
    · split at h
      · rename_i e
        obtain ⟨rfl, _⟩ := Prod.mk.inj h
        exact ⟨wrap_in _, e⟩
      · cases h
theorem numR_of {s : ByteArray} {m : Int} (hm : inI64 m = true) (h : ofL (Lib.itoa m) = s) : numR s = (m, true) := by
  obtain ⟨h0, h1⟩ := inI64_bd hm
  have hd : s.data.toList = Lib.itoa m := by rw [← h, ofL_data]
  have hf : foldN 0 s.data.toList = -(m.natAbs : Int) := by rw [hd]; exact foldN_itoa m hm
  have hin : inI64 (-(m.natAbs : Int)) = true := by rw [← hf]; exact foldN_in _ _ (by decide)
  unfold numR
  simp only [hf]
  by_cases hneg : m ≤ 0
  · have e : -(m.natAbs : Int) = m := by omega
    rw [e, if_pos h]
  · have e : wrap64 (-(-(m.natAbs : Int))) = m := by unfold wrap64; omega
    rw [if_neg (fun z => by have := itoa_inj hin hm (z.trans h.symm); omega), if_neg (by omega), e, if_pos h]
theorem number_spec (s : ByteArray) (hs : s.size ≤ 5000) (k : Nat) (hk : 1002 < k) : ∃ n b, tacticianref01_Number.f k s = some (n, b) ∧ (b = true → inI64 n = true ∧ ofL (Lib.itoa n) = s) ∧ (∀ m, inI64 m = true → ofL (Lib.itoa m) = s → n = m ∧ b = true) := by
  rw [number_at s hs k hk]
  by_cases h : s.size = 0 ∨ 20 < s.size
  · rw [if_pos h]
    refine ⟨0, false, rfl, fun z => (by cases z), fun m hm e => ?_⟩
    have := itoa_len m hm
    have e2 : s.size = (Lib.itoa m).length := by rw [← e, ofL_size]
    omega
  · rw [if_neg h]
    cases hr : numR s with
    | mk n b =>
      refine ⟨n, b, rfl, fun z => ?_, fun m hm e => ?_⟩
      · subst z; exact numR_true hr
      · rw [numR_of hm e] at hr
        obtain ⟨rfl, rfl⟩ := Prod.mk.inj hr
        exact ⟨rfl, rfl⟩
def okT (t x : ByteArray) : Bool := isB 3 0 t && (writL 3 0 t == x.data.toList)
theorem okV_text (t : ByteArray) (h : isB 3 0 t = true) : okV 3 0 t = true := by unfold okV; rw [h]; rfl
theorem scan_end (x acc : ByteArray) (i : Int) (k : Nat) : tacticianref01_Parse.j3 (k + 1) x acc i false = some (3, 0, acc, okT acc x) := by
  simp only [tacticianref01_Parse.j3, tacticianref01_Text.f, tacticianref01_Right_s.f, tacticianref01_String_s.f, Option.bind_some]
  unfold okT
  rw [if_neg (by simp)]
  by_cases h : isB 3 0 acc = true
  · rw [if_pos h, if_pos (okV_text acc h), h]
    simp only [Option.bind_some, ByteArray.toList_eq, Bool.true_and]
    unfold writ
    rw [ofL_data]
  · rw [if_neg h]
    simp [h]
theorem ext_one (x : ByteArray) (i : Nat) (h : i < x.size) : x.extract ((i : Int)).toNat ((i : Int) + 1).toNat = ofL [x.data.toList[i]'(by rw [Array.length_toList]; exact h)] := by
  have hlt' : i < x.data.toList.length := by rw [Array.length_toList]; exact h
  apply ba_ext
  rw [ofL_data, ByteArray.data_extract, Array.toList_extract, show ((i : Int)).toNat = i by omega, show ((i : Int) + 1).toNat = i + 1 by omega]
  simp only [List.extract_eq_take_drop, Nat.add_sub_cancel_left]
  rw [List.drop_eq_getElem_cons hlt']
  rfl
theorem scan_step (x acc : ByteArray) (i k : Nat) (hx : x.size ≤ 5000) (ha : acc.size ≤ 5000) (h : i < x.size) :
    tacticianref01_Parse.j3 (k + 1) x acc (i : Int) true = if bt x (i : Int) = 39 then tacticianref01_Parse.l0 k x (acc ++ ofL [x.data.toList[i]'(by rw [Array.length_toList]; exact h)]) ((i + 2 : Nat) : Int) else tacticianref01_Parse.l0 k x (acc ++ ofL [x.data.toList[i]'(by rw [Array.length_toList]; exact h)]) ((i + 1 : Nat) : Int) := by
  have e1 : wrap64 ((i : Int) + 1) = (i : Int) + 1 := wrap_small (by omega) (by omega)
  have e2 : wrap64 ((i : Int) + 1 + 1) = ((i + 2 : Nat) : Int) := by rw [wrap_small (by omega) (by omega)]; omega
  have e3 : ((i : Int) + 1) = ((i + 1 : Nat) : Int) := by omega
  have hs : (ofL [x.data.toList[i]'(by rw [Array.length_toList]; exact h)]).size = 1 := by rw [ofL_size]; rfl
  simp only [tacticianref01_Parse.j3]
  rw [e1, ext_one x i h, if_pos trivial, if_pos (by omega), if_pos (by omega), if_pos (by omega), if_pos (by rw [hs]; omega), if_pos (by omega), e2]
  rw [e3]
theorem scan_total (x : ByteArray) (hx : x.size ≤ 5000) (h2 : 1 ≤ x.size) : ∀ (d i k : Nat) (acc : ByteArray), x.size + 1 ≤ i + d → acc.size ≤ i → i ≤ x.size + 1 → 2 * d + 2 < k → ∃ t, tacticianref01_Parse.l0 k x acc (i : Int) = some (3, 0, t, okT t x) := by
  intro d
  induction d using Nat.strongRecOn with
  | _ d ih =>
    intro i k acc hi ha hx1 hk
    obtain ⟨k, rfl⟩ : ∃ m, k = m + 2 := ⟨k - 2, by omega⟩
    simp only [tacticianref01_Parse.l0]
    rw [wrap_small (n := (x.size : Int) - 1) (by omega) (by omega)]
    by_cases hlt : i < x.size - 1
    · rw [if_pos (by omega)]
      by_cases h200 : acc.size ≤ 200
      · have hlt2 : i < x.size := by omega
        have hs : (acc ++ ofL [x.data.toList[i]'(by rw [Array.length_toList]; exact hlt2)]).size = acc.size + 1 := by rw [ByteArray.size_append, ofL_size]; rfl
        rw [show decide ((acc.size : Int) ≤ 200) = true by simp; omega, scan_step x acc i k hx (by omega) hlt2]
        split
        · exact ih (d - 2) (by omega) (i + 2) k _ (by omega) (by rw [hs]; omega) (by omega) (by omega)
        · exact ih (d - 1) (by omega) (i + 1) k _ (by omega) (by rw [hs]; omega) (by omega) (by omega)
      · rw [show decide ((acc.size : Int) ≤ 200) = false by simp; omega]
        exact ⟨acc, scan_end x acc _ k⟩
    · rw [if_neg (by omega)]
      exact ⟨acc, scan_end x acc _ k⟩
theorem dbl_append (a b : List UInt8) : dbl (a ++ b) = dbl a ++ dbl b := by
  induction a with
  | nil => rfl
  | cons c r ih => simp only [List.cons_append, dbl]; split <;> simp [ih]
theorem scan_own (t x : ByteArray) (ht : t.size ≤ 200) (hx : x.data.toList = 39 :: (dbl t.data.toList ++ [39])) : ∀ (rest pre : List UInt8) (k : Nat), t.data.toList = pre ++ rest → 2 * rest.length + 2 < k →
    tacticianref01_Parse.l0 k x (ofL pre) ((1 + (dbl pre).length : Nat) : Int) = some (3, 0, t, okT t x) := by
  have hl : x.data.toList.length = x.size := Array.length_toList
  have hsz : x.size = (dbl t.data.toList).length + 2 := by rw [← hl, hx]; simp
  have hd := dbl_le t.data.toList
  have htl : t.data.toList.length = t.size := Array.length_toList
  have hx1 : x.size ≤ 5000 := by rw [hsz]; omega
  intro rest
  induction rest with
  | nil =>
    intro pre k hp hk
    obtain ⟨k, rfl⟩ : ∃ m, k = m + 2 := ⟨k - 2, by omega⟩
    rw [List.append_nil] at hp
    subst hp
    simp only [tacticianref01_Parse.l0]
    rw [wrap_small (n := (x.size : Int) - 1) (by omega) (by omega), if_neg (by omega), scan_end, ofL_toList]
  | cons c r ih =>
    intro pre k hp hk
    obtain ⟨k, rfl⟩ : ∃ m, k = m + 2 := ⟨k - 2, by omega⟩
    have hdp : dbl t.data.toList = dbl pre ++ dbl (c :: r) := by rw [hp, dbl_append]
    have hge : 1 ≤ (dbl (c :: r)).length := by simp only [dbl]; split <;> simp
    have hlen : (dbl t.data.toList).length = (dbl pre).length + (dbl (c :: r)).length := by rw [hdp, List.length_append]
    have hpre : pre.length ≤ 200 := by have : t.data.toList.length = pre.length + (c :: r).length := by rw [hp, List.length_append]
                                       omega
    have hlt : 1 + (dbl pre).length < x.size := by omega
    have hget : x.data.toList[1 + (dbl pre).length]'(by rw [hl]; exact hlt) = c := by
      have e : x.data.toList[1 + (dbl pre).length]? = some c := by
        rw [hx, Nat.add_comm 1, List.getElem?_cons_succ, hdp, List.append_assoc, List.getElem?_append_right (Nat.le_refl _), Nat.sub_self]
        simp only [dbl]
        split
        · rename_i h; subst h; rfl
        · rfl
      exact (List.getElem?_eq_some_iff.1 e).2
    have hb := bt_get x (1 + (dbl pre).length) hlt
    rw [hget] at hb
    have hap : ofL pre ++ ofL [c] = ofL (pre ++ [c]) := by apply ba_ext; rw [append_data, ofL_data, ofL_data, ofL_data]
    have hnext := ih (pre ++ [c]) k (by rw [hp]; simp) (by simp only [List.length_cons] at hk; omega)
    simp only [tacticianref01_Parse.l0]
    rw [wrap_small (n := (x.size : Int) - 1) (by omega) (by omega), if_pos (by omega), ofL_size, show decide ((pre.length : Int) ≤ 200) = true by simp; omega,
      scan_step x (ofL pre) (1 + (dbl pre).length) k hx1 (by rw [ofL_size]; omega) hlt, hget, hb, hap]
    by_cases hc : c = 39
    · have e : (dbl (pre ++ [c])).length = (dbl pre).length + 2 := by rw [dbl_append, hc]; simp [dbl]
      rw [e] at hnext
      rw [if_pos (by rw [hc]; rfl), show 1 + (dbl pre).length + 2 = 1 + ((dbl pre).length + 2) by omega]
      exact hnext
    · have e : (dbl (pre ++ [c])).length = (dbl pre).length + 1 := by rw [dbl_append]; simp [dbl, hc]
      rw [e] at hnext
      rw [if_neg (by intro z; apply hc; apply UInt8.toNat_inj.1; show c.toNat = 39; omega), show 1 + (dbl pre).length + 1 = 1 + ((dbl pre).length + 1) by omega]
      exact hnext
theorem okT_true {t x : ByteArray} (h : okT t x = true) : okV 3 0 t = true ∧ writ 3 0 t = x := by
  unfold okT at h
  rw [Bool.and_eq_true, beq_iff_eq] at h
  exact ⟨okV_text t h.1, by apply ba_ext; unfold writ; rw [ofL_data]; exact h.2⟩
def isText (s : ByteArray) : Bool := bt s 0 == 39 && decide (0 < s.size)
theorem parse_spec (s : ByteArray) (hs : s.size ≤ 5000) (k : Nat) (hk : 15000 < k) : ∃ a b c ok, tacticianref01_Parse.f k s = some (a, b, c, ok) ∧ (ok = true → okV a b c = true ∧ writ a b c = s) ∧
    (∀ a' b' c', okV a' b' c' = true → writ a' b' c' = s → a = a' ∧ b = b' ∧ c = c' ∧ ok = true) := by
  have own : ∀ a b c, okV a b c = true → writ a b c = s → tacticianref01_Parse.f k s = some (a, b, c, true) → ∃ a b c ok, tacticianref01_Parse.f k s = some (a, b, c, ok) ∧ (ok = true → okV a b c = true ∧ writ a b c = s) ∧ (∀ a' b' c', okV a' b' c' = true → writ a' b' c' = s → a = a' ∧ b = b' ∧ c = c' ∧ ok = true) := by
    intro a b c h1 h2 h3
    exact ⟨a, b, c, true, h3, fun _ => ⟨h1, h2⟩, fun a' b' c' h4 h5 => let z := writ_inj h1 h4 (h2.trans h5.symm); ⟨z.1, z.2.1, z.2.2, rfl⟩⟩
  have strEq : ∀ {a b : Int} {c : ByteArray} {l : List UInt8}, s.data.toList = l → writL a b c = l → writ a b c = s := by
    intro a b c l h1 h2; apply ba_ext; unfold writ; rw [ofL_data, h2, h1]
  obtain ⟨k, rfl⟩ : ∃ m, k = m + 2 := ⟨k - 2, by omega⟩
  by_cases h1 : s.data.toList = [110, 117, 108, 108]
  · exact own 0 0 ⟨#[]⟩ rfl (strEq h1 rfl) (by unfold tacticianref01_Parse.f; rw [ByteArray.toList_eq, if_pos h1])
  by_cases h2 : s.data.toList = [116, 114, 117, 101]
  · refine own 2 1 ⟨#[]⟩ rfl (strEq h2 rfl) ?_
    unfold tacticianref01_Parse.f
    rw [ByteArray.toList_eq, if_neg h1, if_pos h2]
    simp only [tacticianref01_Parse.j0, ByteArray.toList_eq, h2]
    rfl
  by_cases h3 : s.data.toList = [102, 97, 108, 115, 101]
  · refine own 2 0 ⟨#[]⟩ rfl (strEq h3 rfl) ?_
    unfold tacticianref01_Parse.f
    rw [ByteArray.toList_eq, if_neg h1, if_neg h2, h3]
    simp only [tacticianref01_Parse.j0, ByteArray.toList_eq, h3]
    rfl
  have hf : (s.data.toList == ([102, 97, 108, 115, 101] : List UInt8)) = false := by simpa using h3
  -- what is left: a text or a number
  have hstart : tacticianref01_Parse.f (k + 2) s = tacticianref01_Parse.j1 (k + 1) s (isText s) := by
    unfold tacticianref01_Parse.f
    rw [ByteArray.toList_eq, if_neg h1, if_neg h2, hf]
    simp only [tacticianref01_Parse.j0, Bool.false_eq_true, if_false]
    unfold isText
    by_cases h0 : 0 < s.size
    · rw [if_pos (by omega), if_pos (by omega)]; simp [h0]
    · rw [if_neg (by omega)]; simp [h0]
  rw [hstart]
  cases ht : isText s with
  | true =>
    have hpos : 0 < s.size := by unfold isText at ht; rw [Bool.and_eq_true, decide_eq_true_eq] at ht; exact ht.2
    have h39 : bt s 0 = 39 := by unfold isText at ht; rw [Bool.and_eq_true, beq_iff_eq] at ht; exact ht.1
    obtain ⟨t, hr⟩ := scan_total s hs hpos (s.size + 1) 1 k ⟨#[]⟩ (by omega) (by decide) (by omega) (by omega)
    have hj : tacticianref01_Parse.j1 (k + 1) s true = some (3, 0, t, okT t s) := by
      simp only [tacticianref01_Parse.j1]
      rw [if_pos trivial]
      exact hr
    refine ⟨3, 0, t, okT t s, hj, fun h => okT_true h, fun a' b' c' h4 h5 => ?_⟩
    rcases okV_cases h4 with ⟨rfl, rfl, rfl⟩ | ⟨rfl, hi, rfl⟩ | ⟨rfl, rfl | rfl, rfl⟩ | ⟨rfl, rfl, hs', hp⟩
    · exact absurd (by rw [← h5]; rfl) h1
    · obtain ⟨d, r, e, hdig⟩ := itoa_head b'
      have hd : s.data.toList = Lib.itoa b' := by rw [← h5]; unfold writ; rw [ofL_data]; rfl
      have hb := bt_get s 0 hpos
      have k0 : s.data.toList[0]'(by rw [Array.length_toList]; exact hpos) = d := by simp [hd, e]
      rw [k0] at hb
      have : (d.toNat : Int) = 39 := hb.symm.trans h39
      omega
    · exact absurd (by rw [← h5]; rfl) h3
    · exact absurd (by rw [← h5]; rfl) h2
    · have hd : s.data.toList = 39 :: (dbl c'.data.toList ++ [39]) := by rw [← h5]; unfold writ; rw [ofL_data]; rfl
      have := scan_own c' s hs' hd c'.data.toList [] k (by simp) (by have : c'.data.toList.length = c'.size := Array.length_toList
                                                                     omega)
      have e2 := hr.symm.trans this
      simp only [Option.some.injEq, Prod.mk.injEq, true_and] at e2
      have hok : okT c' s = true := by
        unfold okT
        unfold okV at h4
        rw [Bool.and_eq_true] at h4
        rw [h4.1, hd]
        simp [writL]
      exact ⟨rfl, rfl, e2.1, by rw [e2.1]; exact hok⟩
  | false =>
    obtain ⟨n, b, hn, hb1, hb2⟩ := number_spec s hs k (by omega)
    have hj : tacticianref01_Parse.j1 (k + 1) s false = some (1, n, ⟨#[]⟩, b) := by
      simp only [tacticianref01_Parse.j1, tacticianref01_Int.f]
      rw [if_neg (by simp), hn]
      rfl
    refine ⟨1, n, ⟨#[]⟩, b, hj, fun h => ?_, fun a' b' c' h4 h5 => ?_⟩
    · obtain ⟨z1, z2⟩ := hb1 h
      exact ⟨by unfold okV; rw [z1]; rfl, z2⟩
    · rcases okV_cases h4 with ⟨rfl, rfl, rfl⟩ | ⟨rfl, hi, rfl⟩ | ⟨rfl, rfl | rfl, rfl⟩ | ⟨rfl, rfl, hs', hp⟩
      · exact absurd (by rw [← h5]; rfl) h1
      · obtain ⟨z1, z2⟩ := hb2 b' hi h5
        exact ⟨rfl, z1, rfl, z2⟩
      · exact absurd (by rw [← h5]; rfl) h3
      · exact absurd (by rw [← h5]; rfl) h2
      · have hd : s.data.toList = 39 :: (dbl c'.data.toList ++ [39]) := by rw [← h5]; unfold writ; rw [ofL_data]; rfl
        have hpos : 0 < s.size := by rw [show s.size = s.data.toList.length from Array.length_toList.symm, hd]; simp
        have hb := bt_get s 0 hpos
        have k0 : s.data.toList[0]'(by rw [Array.length_toList]; exact hpos) = 39 := by simp [hd]
        rw [k0] at hb
        unfold isText at ht
        rw [show bt s 0 = ((39 : UInt8).toNat : Int) from hb] at ht
        simp [hpos] at ht
theorem parse_readC (s : ByteArray) (hs : s.size ≤ 5000) (k : Nat) (hk : 15000 < k) : ∃ a b c ok, tacticianref01_Parse.f k s = some (a, b, c, ok) ∧ readC s = if ok = true then (a, b, c, true) else (0, 0, ⟨#[]⟩, false) := by
  obtain ⟨a, b, c, ok, hf, h1, h2⟩ := parse_spec s hs k hk
  refine ⟨a, b, c, ok, hf, ?_⟩
  cases ok with
  | true =>
    obtain ⟨z1, z2⟩ := h1 rfl
    rw [if_pos rfl, readC_of z1 z2]
  | false =>
    rw [if_neg (by simp)]
    cases hr : readC s with
    | mk a' r =>
      obtain ⟨b', c', o⟩ := r
      cases o with
      | true =>
        obtain ⟨z1, z2⟩ := readC_true s hr
        have := (h2 a' b' c' z1 z2).2.2.2
        cases this
      | false =>
        obtain ⟨rfl, rfl, rfl⟩ := readC_false s hr
        rfl
end Go.Proofs.YtmhobbdedmjmnaaGreatDoor
end
section
namespace Go.Proofs.YtmhobbdedmjmnaaGreatDoor.Q
open Go.RowKit Go.Proofs.YtmhobbdedmjmnaaGreatDoorW.PrintWords Go.Proofs.YtmhobbdedmjmnaaGreatDoorW.PrintLast Go.Proofs.YtmhobbdedmjmnaaGreatDoorW.PrintMore
attribute [local go_sem] max2_int min2_int max_two min_two max_three min_three max_four min_four
set_option linter.unusedVariables false
set_option linter.unusedSimpArgs false
def tacticianref02_Row.l0 : Nat → List (S61) → ByteArray → Int → Option (ByteArray)
  | 0, _, _, _ => none
  | k + 1, x0, x3, x4 => if x4 < (x0.length : Int) then (if x4 > 0 then (if x3.size + 2 ≤ 9223372036854775807 then (if 0 ≤ x4 then ((tacticianref01_String_s.f ((rd_T61 x0 x4).f0) ((rd_T61 x0 x4).f1) ((rd_T61 x0 x4).f2)).bind fun t641 => (if (x3 ++ (⟨#[44, 32]⟩ : ByteArray)).size + t641.size ≤ 9223372036854775807 then (tacticianref02_Row.l0 k x0 ((x3 ++ (⟨#[44, 32]⟩ : ByteArray)) ++ t641) (wrap64 (x4 + 1))) else (none))) else (none)) else (none)) else (if 0 ≤ x4 then ((tacticianref01_String_s.f ((rd_T61 x0 x4).f0) ((rd_T61 x0 x4).f1) ((rd_T61 x0 x4).f2)).bind fun t643 => (if x3.size + t643.size ≤ 9223372036854775807 then (tacticianref02_Row.l0 k x0 (x3 ++ t643) (wrap64 (x4 + 1))) else (none))) else (none))) else (if x3.size + 1 ≤ 9223372036854775807 then (some (x3 ++ (⟨#[41]⟩ : ByteArray))) else (none))
def tacticianref02_Row.f (k : Nat) (l0 : List (S61)) : Option (ByteArray) := tacticianref02_Row.l0 k l0 (⟨#[40]⟩ : ByteArray) 0
set_option maxHeartbeats 8000000 in
set_option maxRecDepth 100000 in
theorem tacticianref02_Row.calls (k : Nat) (A0 : Option Addr) (c0 : Nat) (l0 : List (S61)) (r : ByteArray) (w : World) (hr0 : Kd.C k61 w A0 l0.length l0) (hc0 : l0.length ≤ c0) (h : tacticianref02_Row.f k l0 = some r) :
    Calls Tryz.prog 82 #[.slice A0 l0.length c0] w fun e w' => e = .returned (.string r) ∧ Below w.heap.size w w' := by
  have hu61 := Tryz.underlying61
  have HR0 := aM hr0
  have HC0 := aM hc0
  clear hr0 hc0
  have HB := aM (Below.refl w.heap.size w)
  have H : (tacticianref02_Row.l0 k l0 (⟨#[40]⟩ : ByteArray) 0) = some r := h
  clear h
  have H' := aM H
  clear H
  go_enter Tryz.func82, Tryz.ntmps82
  go_wp2
  go_loopg [3, 4] k (fun kq v3 v4 w' => ∃ (x3_1 : ByteArray) (x4_1 : Int), v3 = .string x3_1 ∧ v4 = .int .i64 x4_1 ∧ Aside0 (tacticianref02_Row.l0 kq l0 x3_1 x4_1 = some r) ∧ Aside0 (kq ≤ k) ∧ Aside0 (Below w.heap.size w w'))
  case atStart => exact ⟨((⟨#[40]⟩ : ByteArray)), (0), (by first | rfl | (simp; done) | (simp [*]; done)), (by first | rfl | (simp; done) | (simp [*]; done)), H', ⟨Nat.le_refl _⟩, ⟨by repeat (first | (with_reducible first | exact HB.out | apply yA | apply yN | apply yD) | exact HB.out)⟩⟩
  case round =>
    clear H'
    obtain ⟨x3_1, x4_1, rfl, rfl, HA, HK1, HB⟩ := hrel
    cases gk with
    | zero => exact absurd HA.out (by simp [tacticianref02_Row.l0])
    | succ k1 =>
      have H := HA.out
      clear HA
      simp only [tacticianref02_Row.l0] at H
      by_cases c2 : x4_1 < (l0.length : Int)
      · rw [if_pos c2] at H
        have c2b0 : decide (x4_1 < (l0.length : Int)) = true := decide_eq_true c2
        clear c2
        by_cases c3 : x4_1 > 0
        · rw [if_pos c3] at H
          have c3b0 : decide (0 < x4_1) = true := decide_eq_true c3
          clear c3
          by_cases c4 : x3_1.size + 2 ≤ 9223372036854775807
          · rw [if_pos c4] at H
            have c4b0 := eq_true c4
            have c4b1 : decide (x3_1.size + 2 ≤ 9223372036854775807) = true := decide_eq_true c4
            try have c4b2 : (9223372036854775807 < x3_1.size + 2) = False := eq_false (Nat.not_lt.2 c4)
            by_cases c5 : 0 ≤ x4_1
            · rw [if_pos c5] at H
              have c5b0 : decide (0 ≤ x4_1) = true := decide_eq_true c5
              clear c5
              replace H := Option.bind_eq_some_iff.mp H
              obtain ⟨t641, A60, H⟩ := H
              replace H : (if (x3_1 ++ (⟨#[44, 32]⟩ : ByteArray)).size + t641.size ≤ 9223372036854775807 then (tacticianref02_Row.l0 k1 l0 ((x3_1 ++ (⟨#[44, 32]⟩ : ByteArray)) ++ t641) (wrap64 (x4_1 + 1))) else (none)) = some r := H
              have A6 := aM A60
              clear A60
              by_cases c7 : (x3_1 ++ (⟨#[44, 32]⟩ : ByteArray)).size + t641.size ≤ 9223372036854775807
              · rw [if_pos c7] at H
                have c7b0 := eq_true c7
                have c7b1 : decide ((x3_1 ++ (⟨#[44, 32]⟩ : ByteArray)).size + t641.size ≤ 9223372036854775807) = true := decide_eq_true c7
                have c7b1x : decide (x3_1.size + (⟨#[44, 32]⟩ : ByteArray).size + t641.size ≤ 9223372036854775807) = true := decide_eq_true (by have h_ := c7; rw [ByteArray.size_append] at h_; exact h_)
                have c7b1y : decide (x3_1.size + 2 + t641.size ≤ 9223372036854775807) = true := c7b1x
                have c7b1z : (9223372036854775807 < x3_1.size + 2 + t641.size) = False := eq_false (by have h_ := c7; rw [ByteArray.size_append] at h_; exact Nat.not_lt.2 h_)
                try have c7b2 : (9223372036854775807 < (x3_1 ++ (⟨#[44, 32]⟩ : ByteArray)).size + t641.size) = False := eq_false (Nat.not_lt.2 c7)
                have H' := aM H
                clear H
                have p640 : 0 ≤ (x4_1 : Int) := of_decide_eq_true (by first | (with_reducible assumption) | assumption)
                have q640 : x4_1 < (l0.length : Int) := of_decide_eq_true (by first | (with_reducible assumption) | assumption)
                obtain ⟨ad640, e640, hx640_0, hx640_1, hx640_2⟩ := at_T61 HR0.out x4_1 p640 q640
                cases e640
                replace hx640_0 := (HB.out.cell (World.block_lt_of_cell? w _ hx640_0)).trans hx640_0
                replace hx640_1 := (HB.out.cell (World.block_lt_of_cell? w _ hx640_1)).trans hx640_1
                replace hx640_2 := (HB.out.cell (World.block_lt_of_cell? w _ hx640_2)).trans hx640_2
                replace p640 := eq_true p640
                replace q640 := eq_true q640
                go_wp2_with (first | ((with_reducible refine gate_callee (f := 119) rfl ?_); refine goesL_ (some 20) rfl rfl Tryz.func119 (by kernel_rfl) rfl #[.agg #[.int .i64 ((rd_T61 l0 x4_1).f0), .int .i64 ((rd_T61 l0 x4_1).f1), .string ((rd_T61 l0 x4_1).f2)]] rfl (by (try simp only [List.map_toArray, List.map_cons, List.map_nil]); first | done | rfl | (simp only [List.length_drop, List.length_take]; rfl)) ?_; (with_reducible refine (tacticianref01_String_s.calls ((rd_T61 l0 x4_1).f0) ((rd_T61 l0 x4_1).f1) ((rd_T61 l0 x4_1).f2) t641 _ A6.out).mono ?_); rintro e w8 ⟨rfl, hb⟩; refine ⟨_, rfl, ?_⟩; have n0_ := aM (below_step (by repeat (first | (with_reducible first | exact HB.out | apply yA | apply yN | apply yD) | exact HB.out)) hb); clear HB; have HB := n0_; clear n0_; (try clear hb); (try clear hb2); (try clear hk); (try clear hi)))
                go_roundg k1
                case measure => have := HK1.out; omega
                case rel => exact ⟨((x3_1 ++ (⟨#[44, 32]⟩ : ByteArray)) ++ t641), (wrap64 (x4_1 + 1)), (by first | rfl | (simp; done) | (simp [*]; done)), (by first | rfl | (simp; done) | (simp [*]; done)), H', ⟨by have := HK1.out; omega⟩, ⟨by repeat (first | (with_reducible first | exact HB.out | apply yA | apply yN | apply yD) | exact HB.out)⟩⟩
              · rw [if_neg c7] at H
                exact absurd H (by simp)
            · rw [if_neg c5] at H
              exact absurd H (by simp)
          · rw [if_neg c4] at H
            exact absurd H (by simp)
        · rw [if_neg c3] at H
          have c3b0 : decide (0 < x4_1) = false := decide_eq_false c3
          clear c3
          by_cases c9 : 0 ≤ x4_1
          · rw [if_pos c9] at H
            have c9b0 : decide (0 ≤ x4_1) = true := decide_eq_true c9
            clear c9
            replace H := Option.bind_eq_some_iff.mp H
            obtain ⟨t643, A100, H⟩ := H
            replace H : (if x3_1.size + t643.size ≤ 9223372036854775807 then (tacticianref02_Row.l0 k1 l0 (x3_1 ++ t643) (wrap64 (x4_1 + 1))) else (none)) = some r := H
            have A10 := aM A100
            clear A100
            by_cases c11 : x3_1.size + t643.size ≤ 9223372036854775807
            · rw [if_pos c11] at H
              have c11b0 := eq_true c11
              have c11b1 : decide (x3_1.size + t643.size ≤ 9223372036854775807) = true := decide_eq_true c11
              try have c11b2 : (9223372036854775807 < x3_1.size + t643.size) = False := eq_false (Nat.not_lt.2 c11)
              have H' := aM H
              clear H
              have p642 : 0 ≤ (x4_1 : Int) := of_decide_eq_true (by first | (with_reducible assumption) | assumption)
              have q642 : x4_1 < (l0.length : Int) := of_decide_eq_true (by first | (with_reducible assumption) | assumption)
              obtain ⟨ad642, e642, hx642_0, hx642_1, hx642_2⟩ := at_T61 HR0.out x4_1 p642 q642
              cases e642
              replace hx642_0 := (HB.out.cell (World.block_lt_of_cell? w _ hx642_0)).trans hx642_0
              replace hx642_1 := (HB.out.cell (World.block_lt_of_cell? w _ hx642_1)).trans hx642_1
              replace hx642_2 := (HB.out.cell (World.block_lt_of_cell? w _ hx642_2)).trans hx642_2
              replace p642 := eq_true p642
              replace q642 := eq_true q642
              go_wp2_with (first | ((with_reducible refine gate_callee (f := 119) rfl ?_); refine goesL_ (some 20) rfl rfl Tryz.func119 (by kernel_rfl) rfl #[.agg #[.int .i64 ((rd_T61 l0 x4_1).f0), .int .i64 ((rd_T61 l0 x4_1).f1), .string ((rd_T61 l0 x4_1).f2)]] rfl (by (try simp only [List.map_toArray, List.map_cons, List.map_nil]); first | done | rfl | (simp only [List.length_drop, List.length_take]; rfl)) ?_; (with_reducible refine (tacticianref01_String_s.calls ((rd_T61 l0 x4_1).f0) ((rd_T61 l0 x4_1).f1) ((rd_T61 l0 x4_1).f2) t643 _ A10.out).mono ?_); rintro e w12 ⟨rfl, hb⟩; refine ⟨_, rfl, ?_⟩; have n0_ := aM (below_step (by repeat (first | (with_reducible first | exact HB.out | apply yA | apply yN | apply yD) | exact HB.out)) hb); clear HB; have HB := n0_; clear n0_; (try clear hb); (try clear hb2); (try clear hk); (try clear hi)))
              go_roundg k1
              case measure => have := HK1.out; omega
              case rel => exact ⟨(x3_1 ++ t643), (wrap64 (x4_1 + 1)), (by first | rfl | (simp; done) | (simp [*]; done)), (by first | rfl | (simp; done) | (simp [*]; done)), H', ⟨by have := HK1.out; omega⟩, ⟨by repeat (first | (with_reducible first | exact HB.out | apply yA | apply yN | apply yD) | exact HB.out)⟩⟩
            · rw [if_neg c11] at H
              exact absurd H (by simp)
          · rw [if_neg c9] at H
            exact absurd H (by simp)
      · rw [if_neg c2] at H
        have c2b0 : decide (x4_1 < (l0.length : Int)) = false := decide_eq_false c2
        clear c2
        by_cases c13 : x3_1.size + 1 ≤ 9223372036854775807
        · rw [if_pos c13] at H
          have c13b0 := eq_true c13
          have c13b1 : decide (x3_1.size + 1 ≤ 9223372036854775807) = true := decide_eq_true c13
          try have c13b2 : (9223372036854775807 < x3_1.size + 1) = False := eq_false (Nat.not_lt.2 c13)
          obtain rfl := Option.some.inj H
          go_wp2
          go_ret
          exact ⟨by first | rfl | (simp [errW_none, errW_some] <;> rfl) | (simp [*, errW_none, errW_some] <;> rfl), by repeat (first | (with_reducible first | exact HB.out | apply yA | apply yN | apply yD) | exact HB.out)⟩
        · rw [if_neg c13] at H
          exact absurd H (by simp)
def tacticianref02_String.l0 : Nat → List (List (S61)) → List Int → Int → Option (ByteArray)
  | 0, _, _, _ => none
  | k + 1, x0, x3, x4 => if x4 < (x0.length : Int) then (if 0 ≤ x4 then ((tacticianref02_Row.f k (rd_L3 x0 x4)).bind fun t645 => (if t645.size + 1 ≤ 9223372036854775807 then (if x3.length + (t645 ++ (⟨#[10]⟩ : ByteArray)).size < 140737488355328 then (tacticianref02_String.l0 k x0 (x3 ++ bytesOf (t645 ++ (⟨#[10]⟩ : ByteArray))) (wrap64 (x4 + 1))) else (none)) else (none))) else (none)) else (some (strOfNums x3))
def tacticianref02_String.f (k : Nat) (l0 : List (List (S61))) : Option (ByteArray) := tacticianref02_String.l0 k l0 ([] : List Int) 0
set_option maxHeartbeats 8000000 in
set_option maxRecDepth 100000 in
theorem tacticianref02_String.calls (k : Nat) (A0 : Option Addr) (c0 : Nat) (l0 : List (List (S61))) (r : ByteArray) (w : World) (hr0 : Kd.C (Kd.slice 61 k61) w A0 l0.length l0) (hc0 : l0.length ≤ c0) (h : tacticianref02_String.f k l0 = some r) :
    Calls Tryz.prog 49 #[.slice A0 l0.length c0] w fun e w' => e = .returned (.string r) ∧ Below w.heap.size w w' := by
  have HR0 := aM hr0
  have HC0 := aM hc0
  clear hr0 hc0
  have HB := aM (Below.refl w.heap.size w)
  have H : (tacticianref02_String.l0 k l0 ([] : List Int) 0) = some r := h
  clear h
  have H' := aM H
  clear H
  go_enter Tryz.func49, Tryz.ntmps49
  go_wp2
  go_loopg [3, 4] k (fun kq v3 v4 w' => ∃ (x3_1 : List Int) (x4_1 : Int), v4 = .int .i64 x4_1 ∧ Aside0 (tacticianref02_String.l0 kq l0 x3_1 x4_1 = some r) ∧ Aside0 (kq ≤ k) ∧ Aside0 (Kd.R (Kd.int .u8) 5 w' w.heap.size (fun _ => True) v3 x3_1) ∧ Aside0 (Below w.heap.size w w'))
  case atStart => exact ⟨(([] : List Int)), (0), (by first | rfl | (simp; done) | (simp [*]; done)), H', ⟨Nat.le_refl _⟩, ⟨by first | exact Kd.R_nil _ _ _ _ _ | exact Kd.N_nil _ _ _ _ _ | exact Kd.V_nil _ _ _ _ _ | exact Kd.Q_nil _ _ _ _ _ | exact Kd.S_nil _ _ _ _ _⟩, ⟨by repeat (first | (with_reducible first | exact HB.out | apply yA | apply yN | apply yD) | exact HB.out)⟩⟩
  case round =>
    clear H'
    obtain ⟨x3_1, x4_1, rfl, HA, HK1, HO_3, HB⟩ := hrel
    cases gk with
    | zero => exact absurd HA.out (by simp [tacticianref02_String.l0])
    | succ k1 =>
      have H := HA.out
      clear HA
      simp only [tacticianref02_String.l0] at H
      by_cases c2 : x4_1 < (l0.length : Int)
      · rw [if_pos c2] at H
        have c2b0 : decide (x4_1 < (l0.length : Int)) = true := decide_eq_true c2
        clear c2
        by_cases c3 : 0 ≤ x4_1
        · rw [if_pos c3] at H
          have c3b0 : decide (0 ≤ x4_1) = true := decide_eq_true c3
          clear c3
          replace H := Option.bind_eq_some_iff.mp H
          obtain ⟨t645, A40, H⟩ := H
          replace H : (if t645.size + 1 ≤ 9223372036854775807 then (if x3_1.length + (t645 ++ (⟨#[10]⟩ : ByteArray)).size < 140737488355328 then (tacticianref02_String.l0 k1 l0 (x3_1 ++ bytesOf (t645 ++ (⟨#[10]⟩ : ByteArray))) (wrap64 (x4_1 + 1))) else (none)) else (none)) = some r := H
          have A4 := aM A40
          clear A40
          by_cases c5 : t645.size + 1 ≤ 9223372036854775807
          · rw [if_pos c5] at H
            have c5b0 := eq_true c5
            have c5b1 : decide (t645.size + 1 ≤ 9223372036854775807) = true := decide_eq_true c5
            try have c5b2 : (9223372036854775807 < t645.size + 1) = False := eq_false (Nat.not_lt.2 c5)
            by_cases c6 : x3_1.length + (t645 ++ (⟨#[10]⟩ : ByteArray)).size < 140737488355328
            · rw [if_pos c6] at H
              have LMc6 := aM c6
              clear c6
              obtain ⟨y646, hy646⟩ : ∃ y_ : List Int, y_ = (x3_1 ++ bytesOf (t645 ++ (⟨#[10]⟩ : ByteArray))) := ⟨_, rfl⟩
              replace H : (tacticianref02_String.l0 k1 l0 y646 (wrap64 (x4_1 + 1))) = some r := by first | (rw [hy646]; with_reducible exact H) | (have H2_ := (Option.bind_some _ _).symm.trans H; rw [hy646]; with_reducible exact H2_) | (have H2_ := (Option.bind_some _ _).symm.trans H; with_reducible exact H2_) | with_reducible exact H | (rw [hy646]; exact H) | exact H
              have Ny646 := aM hy646
              clear hy646
              have H' := aM H
              clear H
              have p644 : 0 ≤ (x4_1 : Int) := of_decide_eq_true (by first | (with_reducible assumption) | assumption)
              have q644 : x4_1 < (l0.length : Int) := of_decide_eq_true (by first | (with_reducible assumption) | assumption)
              obtain ⟨ad644, A644_0, c644_0, e644, hx644_0, hl644_0, hi644_0⟩ := at_L3 HR0.out x4_1 p644 q644
              cases e644
              replace hx644_0 := (HB.out.cell (World.block_lt_of_cell? w _ hx644_0)).trans hx644_0
              have HR644_0 := aM hi644_0
              have HC644_0 := aM hl644_0
              clear hi644_0 hl644_0
              replace p644 := eq_true p644
              replace q644 := eq_true q644
              go_wp2_with (first | ((with_reducible refine gate_callee (f := 82) rfl ?_); refine goesL_ (some 16) rfl rfl Tryz.func82 (by kernel_rfl) rfl #[.slice A644_0 (rd_L3 l0 x4_1).length c644_0] rfl (by (try simp only [List.map_toArray, List.map_cons, List.map_nil]); first | done | rfl | (simp only [List.length_drop, List.length_take]; rfl)) ?_; (with_reducible refine (tacticianref02_Row.calls k1 _ _ (rd_L3 l0 x4_1) t645 _ ?side1 ?side2 A4.out).mono ?_); (case side1 => repeat (first | exact (Kd.C_below HR644_0.out HB.out) | (with_reducible refine Kd.C_alloc ?_ _) | (with_reducible refine Kd.C_drewN ?_ _) | (with_reducible refine Kd.C_drew ?_))); (case side2 => exact HC644_0.out); rintro e w7 ⟨rfl, hb⟩; refine ⟨_, rfl, ?_⟩; have n0_ := aM (Kd.R_below (by (with_reducible repeat (first | apply Kd.R_alloc | apply Kd.R_drewN | apply Kd.R_drew)); exact HO_3.out) hb); have n1_ := aM (below_step (by repeat (first | (with_reducible first | exact HB.out | apply yA | apply yN | apply yD) | exact HB.out)) hb); clear HO_3; clear HB; have HO_3 := n0_; have HB := n1_; clear n0_ n1_; (try clear hb); (try clear hb2); (try clear hk); (try clear hi)) | (at_builtin; refine print_append_str (w0 := w) w.heap.size rfl (.tmp 11) _ 100 9 5 rfl Tryz.underlying100 Tryz.underlying9 info5 u3 x3_1 (t645 ++ (⟨#[10]⟩ : ByteArray)) rfl rfl ?aO ?aB ?aS ?aL ?_; (case aB => exact (by repeat (first | (with_reducible first | exact HB.out | apply yA | apply yN | apply yD) | exact HB.out))); (case aO => exact (Kd.own_of_R (by (with_reducible repeat (first | apply Kd.R_alloc | apply Kd.R_drewN | apply Kd.R_drew)); exact HO_3.out))); (case aS => exact (below_size (by repeat (first | (with_reducible first | exact HB.out | apply yA | apply yN | apply yD) | exact HB.out)))); (case aL => have := LMc6.out; omega); intro v647 w8 ho0 hb hg; have ho := Kd.R_of_own (h1 := fun _ => rfl) (ok := fun _ => True) ho0 (fun _ _ => trivial); clear ho0; have hat := True.intro; rw [← Ny646.out] at ho; change Kd.R (Kd.int .u8) 5 w8 w.heap.size (fun _ => True) v647 y646 at ho; have n0_ := aM (hb); have n1_ := aM (ho); clear HB; clear HO_3; have HB := n0_; have HO648 := n1_; clear n0_ n1_; clear ho hb hg hat))
              go_roundg k1
              case measure => have := HK1.out; omega
              case rel => exact ⟨(y646), (wrap64 (x4_1 + 1)), (by first | rfl | (simp; done) | (simp [*]; done)), H', ⟨by have := HK1.out; omega⟩, ⟨by (with_reducible repeat (first | apply Kd.R_alloc | apply Kd.R_drewN | apply Kd.R_drew)); exact HO648.out⟩, ⟨by repeat (first | (with_reducible first | exact HB.out | apply yA | apply yN | apply yD) | exact HB.out)⟩⟩
            · rw [if_neg c6] at H
              exact absurd H (by simp)
          · rw [if_neg c5] at H
            exact absurd H (by simp)
        · rw [if_neg c3] at H
          exact absurd H (by simp)
      · rw [if_neg c2] at H
        have c2b0 : decide (x4_1 < (l0.length : Int)) = false := decide_eq_false c2
        clear c2
        obtain rfl := Option.some.inj H
        have hcv9 := own_string (P := Tryz.prog) Tryz.underlying100 Tryz.underlying5 Tryz.underlying9 (Kd.own_of_R HO_3.out)
        go_wp2
        go_ret
        exact ⟨by first | rfl | (simp [errW_none, errW_some] <;> rfl) | (simp [*, errW_none, errW_some] <;> rfl), by repeat (first | (with_reducible first | exact HB.out | apply yA | apply yN | apply yD) | exact HB.out)⟩
def stringslite_HasPrefix.f (a0 : ByteArray) (a1 : ByteArray) : Option (Bool) := if (a0.size : Int) ≥ (a1.size : Int) then (if 0 ≤ (a1.size : Int) then (if (a1.size : Int) ≤ (a0.size : Int) then (some ((a0.extract 0 ((a1.size : Int) : Int).toNat).toList == a1.toList)) else (none)) else (none)) else (some false)
set_option maxHeartbeats 8000000 in
set_option maxRecDepth 100000 in
theorem stringslite_HasPrefix.calls (a0 : ByteArray) (a1 : ByteArray) (r : Bool) (w : World) (h : stringslite_HasPrefix.f a0 a1 = some r) :
    Calls Tryz.prog 121 #[.string a0, .string a1] w fun e w' => e = .returned (.bool r) ∧ Drawn0 w w' := by
  have H : (if (a0.size : Int) ≥ (a1.size : Int) then (if 0 ≤ (a1.size : Int) then (if (a1.size : Int) ≤ (a0.size : Int) then (some ((a0.extract 0 ((a1.size : Int) : Int).toNat).toList == a1.toList)) else (none)) else (none)) else (some false)) = some r := h
  clear h
  by_cases c3 : (a0.size : Int) ≥ (a1.size : Int)
  · rw [if_pos c3] at H
    have c3b0 : decide ((a1.size : Int) ≤ (a0.size : Int)) = true := decide_eq_true c3
    have c3b1 : decide (a1.size ≤ a0.size) = true := decide_eq_true (Int.ofNat_le.mp c3)
    clear c3
    by_cases c4 : 0 ≤ (a1.size : Int)
    · rw [if_pos c4] at H
      have c4b0 := eq_true c4
      have c4b1 : decide (0 ≤ (a1.size : Int)) = true := decide_eq_true c4
      clear c4
      by_cases c5 : (a1.size : Int) ≤ (a0.size : Int)
      · rw [if_pos c5] at H
        have c5b0 := eq_true c5
        have c5b1 : decide ((a1.size : Int) ≤ (a0.size : Int)) = true := decide_eq_true c5
        clear c5
        obtain rfl := Option.some.inj H
        go_enter Tryz.func121, Tryz.ntmps121
        go_wp2
        go_ret
        exact ⟨by first | rfl | (simp; done) | (simp [*]; done), by repeat (first | exact Drawn0.refl _ | apply Drawn0.step)⟩
      · rw [if_neg c5] at H
        exact absurd H (by simp)
    · rw [if_neg c4] at H
      exact absurd H (by simp)
  · rw [if_neg c3] at H
    have c3b0 : decide ((a1.size : Int) ≤ (a0.size : Int)) = false := decide_eq_false c3
    have c3b1 : decide (a1.size ≤ a0.size) = false := decide_eq_false (fun h => c3 (Int.ofNat_le.mpr h))
    clear c3
    obtain rfl := Option.some.inj H
    go_enter Tryz.func121, Tryz.ntmps121
    go_wp2
    go_ret
    exact ⟨by first | rfl | (simp; done) | (simp [*]; done), by repeat (first | exact Drawn0.refl _ | apply Drawn0.step)⟩
def strings_HasPrefix.f (a0 : ByteArray) (a1 : ByteArray) : Option (Bool) := (stringslite_HasPrefix.f a0 a1).bind fun t649 => (some t649)
set_option maxHeartbeats 8000000 in
set_option maxRecDepth 100000 in
theorem strings_HasPrefix.calls (a0 : ByteArray) (a1 : ByteArray) (r : Bool) (w : World) (h : strings_HasPrefix.f a0 a1 = some r) :
    Calls Tryz.prog 84 #[.string a0, .string a1] w fun e w' => e = .returned (.bool r) ∧ Drawn0 w w' := by
  have H : ((stringslite_HasPrefix.f a0 a1).bind fun t649 => (some t649)) = some r := h
  clear h
  replace H := Option.bind_eq_some_iff.mp H
  obtain ⟨t649, A30, H⟩ := H
  replace H : (some t649) = some r := H
  have A3 := aM A30
  clear A30
  obtain rfl := Option.some.inj H
  go_enter Tryz.func84, Tryz.ntmps84
  go_wp2_with (first | ((with_reducible refine gate_callee (f := 121) rfl ?_); refine goesL_ (some 7) rfl rfl Tryz.func121 (by kernel_rfl) rfl #[.string a0, .string a1] rfl (by (try simp only [List.map_toArray, List.map_cons, List.map_nil]); first | done | rfl | (simp only [List.length_drop, List.length_take]; rfl)) ?_; (with_reducible refine (stringslite_HasPrefix.calls a0 a1 t649 _ A3.out).mono ?_); rintro e w' ⟨rfl, ⟨nd, rfl⟩⟩; refine ⟨_, rfl, ?_⟩))
  go_ret
  exact ⟨by first | rfl | (simp; done) | (simp [*]; done), by repeat (first | exact Drawn0.refl _ | apply Drawn0.step)⟩
def value_True.f  : Option (Int × Int × ByteArray) := some (2, 1, (⟨#[]⟩ : ByteArray))
set_option maxHeartbeats 8000000 in
set_option maxRecDepth 100000 in
theorem value_True.calls  (r1 : Int) (r2 : Int) (r3 : ByteArray) (w : World) (h : value_True.f  = some (r1, r2, r3)) :
    Calls Tryz.prog 165 #[] w fun e w' => e = .returned (.agg #[.int .i64 r1, .int .i64 r2, .string r3]) ∧ Below w.heap.size w w' := by
  have hu61 := Tryz.underlying61
  have HB := aM (Below.refl w.heap.size w)
  have H : (some (2, 1, (⟨#[]⟩ : ByteArray))) = some (r1, r2, r3) := h
  clear h
  simp only [Option.some.injEq, Prod.mk.injEq] at H
  obtain ⟨rfl, rfl, rfl⟩ := H
  go_enter Tryz.func165, Tryz.ntmps165
  go_wp2_with (first | ((with_reducible refine gate_dst (N := 0) rfl ?_); refine box_event ?hg (N := 0) ?hd (cs := #[.int .i64 0, .int .i64 0, .string (⟨#[]⟩ : ByteArray)]) (t := 61) ?hr ?_; (case hd => rfl); (case hg => rfl); (case hr => first | (go_simp; done) | (go_simp; rfl)); intro gb650 hg w1 hbox hb; have n0_ := aM (below_step (by repeat (first | (with_reducible first | exact HB.out | apply yA | apply yN | apply yD) | exact HB.out)) hb); have n1_ := aM (hbox); have n2_ := aM ((by rw [hg]; exact (below_size (by repeat (first | (with_reducible first | exact HB.out | apply yA | apply yN | apply yD) | exact HB.out))) : w.heap.size ≤ gb650)); have n3_ := n2_; clear HB; have HB := n0_; have BK650 := n1_; have GW650 := n2_; have GE650 := n3_; clear n0_ n1_ n2_ n3_; clear hb hbox hg; have hcz2_0 : w1.cell? ⟨gb650, 0, none⟩ = some (.int .i64 0) := (blk_cell BK650.out 0).trans rfl; have hcz2_1 : w1.cell? ⟨gb650, 1, none⟩ = some (.int .i64 0) := (blk_cell BK650.out 1).trans rfl; have hcz2_2 : w1.cell? ⟨gb650, 2, none⟩ = some (.string (⟨#[]⟩ : ByteArray)) := (blk_cell BK650.out 2).trans rfl; have hfz2_0 := blk_frozen BK650.out 0; have hfz2_1 := blk_frozen BK650.out 1; have hfz2_2 := blk_frozen BK650.out 2))
  refine bodyPost_ret (results_cell_row rfl _ _ gb650 61 #[.int .i64 2, .int .i64 1, .string (⟨#[]⟩ : ByteArray)] (0, 0) _ rfl (by (with_reducible repeat (first | refine zN ?_ _ | refine zD ?_ | refine zA ?_ _)); refine blk_put (cs := #[.int .i64 2, .int .i64 1, .string (⟨#[]⟩ : ByteArray)]) ?_ 2 _ rfl; (with_reducible repeat (first | refine zN ?_ _ | refine zD ?_ | refine zA ?_ _)); refine blk_put (cs := #[.int .i64 2, .int .i64 0, .string (⟨#[]⟩ : ByteArray)]) ?_ 1 _ rfl; (with_reducible repeat (first | refine zN ?_ _ | refine zD ?_ | refine zA ?_ _)); refine blk_put (cs := #[.int .i64 0, .int .i64 0, .string (⟨#[]⟩ : ByteArray)]) ?_ 0 _ rfl; (with_reducible repeat (first | refine zN ?_ _ | refine zD ?_ | refine zA ?_ _)); exact BK650.out) Tryz.underlying61 rfl (by kernel_rfl)) rfl ?_
  exact ⟨by first | rfl | (simp [errW_none, errW_some] <;> rfl) | (simp [*, errW_none, errW_some] <;> rfl), by repeat (first | (with_reducible first | exact HB.out | apply yA | apply yN | apply yD | refine below_set ?_ GE650.out) | exact HB.out)⟩
def value_False.f  : Option (Int × Int × ByteArray) := some (2, 0, (⟨#[]⟩ : ByteArray))
set_option maxHeartbeats 8000000 in
set_option maxRecDepth 100000 in
theorem value_False.calls  (r1 : Int) (r2 : Int) (r3 : ByteArray) (w : World) (h : value_False.f  = some (r1, r2, r3)) :
    Calls Tryz.prog 166 #[] w fun e w' => e = .returned (.agg #[.int .i64 r1, .int .i64 r2, .string r3]) ∧ Below w.heap.size w w' := by
  have hu61 := Tryz.underlying61
  have HB := aM (Below.refl w.heap.size w)
  have H : (some (2, 0, (⟨#[]⟩ : ByteArray))) = some (r1, r2, r3) := h
  clear h
  simp only [Option.some.injEq, Prod.mk.injEq] at H
  obtain ⟨rfl, rfl, rfl⟩ := H
  go_enter Tryz.func166, Tryz.ntmps166
  go_wp2_with (first | ((with_reducible refine gate_dst (N := 0) rfl ?_); refine box_event ?hg (N := 0) ?hd (cs := #[.int .i64 0, .int .i64 0, .string (⟨#[]⟩ : ByteArray)]) (t := 61) ?hr ?_; (case hd => rfl); (case hg => rfl); (case hr => first | (go_simp; done) | (go_simp; rfl)); intro gb651 hg w1 hbox hb; have n0_ := aM (below_step (by repeat (first | (with_reducible first | exact HB.out | apply yA | apply yN | apply yD) | exact HB.out)) hb); have n1_ := aM (hbox); have n2_ := aM ((by rw [hg]; exact (below_size (by repeat (first | (with_reducible first | exact HB.out | apply yA | apply yN | apply yD) | exact HB.out))) : w.heap.size ≤ gb651)); have n3_ := n2_; clear HB; have HB := n0_; have BK651 := n1_; have GW651 := n2_; have GE651 := n3_; clear n0_ n1_ n2_ n3_; clear hb hbox hg; have hcz2_0 : w1.cell? ⟨gb651, 0, none⟩ = some (.int .i64 0) := (blk_cell BK651.out 0).trans rfl; have hcz2_1 : w1.cell? ⟨gb651, 1, none⟩ = some (.int .i64 0) := (blk_cell BK651.out 1).trans rfl; have hcz2_2 : w1.cell? ⟨gb651, 2, none⟩ = some (.string (⟨#[]⟩ : ByteArray)) := (blk_cell BK651.out 2).trans rfl; have hfz2_0 := blk_frozen BK651.out 0; have hfz2_1 := blk_frozen BK651.out 1; have hfz2_2 := blk_frozen BK651.out 2))
  refine bodyPost_ret (results_cell_row rfl _ _ gb651 61 #[.int .i64 2, .int .i64 0, .string (⟨#[]⟩ : ByteArray)] (0, 0) _ rfl (by (with_reducible repeat (first | refine zN ?_ _ | refine zD ?_ | refine zA ?_ _)); refine blk_put (cs := #[.int .i64 2, .int .i64 0, .string (⟨#[]⟩ : ByteArray)]) ?_ 2 _ rfl; (with_reducible repeat (first | refine zN ?_ _ | refine zD ?_ | refine zA ?_ _)); refine blk_put (cs := #[.int .i64 2, .int .i64 0, .string (⟨#[]⟩ : ByteArray)]) ?_ 1 _ rfl; (with_reducible repeat (first | refine zN ?_ _ | refine zD ?_ | refine zA ?_ _)); refine blk_put (cs := #[.int .i64 0, .int .i64 0, .string (⟨#[]⟩ : ByteArray)]) ?_ 0 _ rfl; (with_reducible repeat (first | refine zN ?_ _ | refine zD ?_ | refine zA ?_ _)); exact BK651.out) Tryz.underlying61 rfl (by kernel_rfl)) rfl ?_
  exact ⟨by first | rfl | (simp [errW_none, errW_some] <;> rfl) | (simp [*, errW_none, errW_some] <;> rfl), by repeat (first | (with_reducible first | exact HB.out | apply yA | apply yN | apply yD | refine below_set ?_ GE651.out) | exact HB.out)⟩
def strconv_ParseInt.f (a0 : ByteArray) (a1 : Int) (a2 : Int) : Option (Int × Option Int) := if a0.size ≤ 281474976710656 ∧ a1 = 10 ∧ a2 = 64 then (match Lib.parseIntB 64 a0.data.toList with | .ok v => some (v, none) | .range => some (Lib.intSat 64 a0.data.toList, some 1) | _ => some (0, some 0)) else none
theorem strconv_ParseInt.calls (a0 : ByteArray) (a1 : Int) (a2 : Int) (r1 : Int) (r2 : Option Int) (w : World) (hL_ : LaidE w) (h : strconv_ParseInt.f a0 a1 a2 = some (r1, r2)) :
  Calls Tryz.prog 167 #[.string a0, .int .i64 a1, .int .i64 a2] w fun e w' => ∃ ev : Value, e = .returned (.tuple #[.int .i64 r1, ev]) ∧ errR r2 ev ∧ Below w.heap.size w w' := by
 unfold strconv_ParseInt.f at h
 by_cases h0 : a0.size ≤ 281474976710656 ∧ a1 = 10 ∧ a2 = 64
 ·rw [if_pos h0] at h
  obtain ⟨hs, rfl, rfl⟩ := h0
  cases hp : Lib.parseIntB 64 a0.data.toList with
  | ok v =>
   rw [hp] at h
   obtain ⟨rfl, rfl⟩ := Prod.mk.inj (Option.some.inj h)
   refine (Tryz.strconv_ParseInt_10_at64_ok a0 (by omega) v hp w).mono ?_
   rintro e w' ⟨rfl, hw⟩
   refine ⟨_, rfl, rfl, ?_⟩
   rcases hw with rfl | ⟨t, rfl⟩
   ·exact Below.refl _ _
   ·exact Lib.bytesWorld_below _ _ _
  | range =>
   rw [hp] at h
   obtain ⟨rfl, rfl⟩ := Prod.mk.inj (Option.some.inj h)
   obtain ⟨tp, p, hv⟩ := hL_.rang
   refine (Tryz.strconv_ParseInt_10_at64_range_var a0 hs hp tp p w hv).mono ?_
   rintro e w' ⟨N, rfl, _, _, hb⟩
   exact ⟨_, rfl, ⟨_, _, rfl⟩, hb⟩
  | _ =>
   rw [hp] at h
   obtain ⟨rfl, rfl⟩ := Prod.mk.inj (Option.some.inj h)
   obtain ⟨tp, p, hv⟩ := hL_.synt
   refine (Tryz.strconv_ParseInt_10_at64_syntax_var a0 hs (fun v e => by rw [hp] at e; cases e) (fun e => by rw [hp] at e; cases e) tp p w hv).mono ?_
   rintro e w' ⟨N, rfl, _, _, hb⟩
   exact ⟨_, rfl, ⟨_, _, rfl⟩, hb⟩
 ·rw [if_neg h0] at h; cases h
end Go.Proofs.YtmhobbdedmjmnaaGreatDoor.Q
end
