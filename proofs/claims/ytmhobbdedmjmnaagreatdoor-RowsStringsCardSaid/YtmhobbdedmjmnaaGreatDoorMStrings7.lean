/- Lemmas for the claim: contracts of functions and facts about what they compute, part 8 (texts put together, and cut down to what is used, by a program of ours). -/
import Derived.Test.YtmhobbdedmjmnaaGreatDoorMStrings6
section
namespace Go.Proofs.YtmhobbdedmjmnaaGreatDoor.Q
open Go.RowKit Go.Proofs.YtmhobbdedmjmnaaGreatDoorW.PrintWords Go.Proofs.YtmhobbdedmjmnaaGreatDoorW.PrintLast Go.Proofs.YtmhobbdedmjmnaaGreatDoorW.PrintMore
attribute [local go_sem] max2_int min2_int max_two min_two max_three min_three max_four min_four
set_option linter.unusedVariables false
set_option linter.unusedSimpArgs false
mutual
def value_Read.j1 : Nat → ByteArray → Int → Int → ByteArray → Option (Int × Int × ByteArray × Bool)
  | 0, _, _, _, _ => none
  | k + 1, x0, x654000, x654001, x654002 => (value_Is_s.f x654000 x654001 x654002).bind fun t664 => (if t664 = true then ((value_Written.f x654000 x654001 x654002).bind fun t665 => (if t665.toList = x0.toList then (some (x654000, x654001, x654002, true)) else (some (0, 0, (⟨#[]⟩ : ByteArray), false)))) else (some (0, 0, (⟨#[]⟩ : ByteArray), false)))
def value_Read.j0 : Nat → ByteArray → Bool → Option (Int × Int × ByteArray × Bool)
  | 0, _, _ => none
  | k + 1, x0, x28 => if x28 = true then (if 1 ≤ (wrap64 ((x0.size : Int) - 1)) then (if (wrap64 ((x0.size : Int) - 1)) ≤ (x0.size : Int) then ((strings_ReplaceAll.f (x0.extract 1 ((wrap64 ((x0.size : Int) - 1)) : Int).toNat) (⟨#[39, 39]⟩ : ByteArray) (⟨#[39]⟩ : ByteArray)).bind fun t660 => (value_Read.j1 k x0 3 0 t660)) else (none)) else (none)) else ((strconv_ParseInt.f x0 10 64).bind fun bt661 => (if bt661.2.isNone = true then (value_Read.j1 k x0 1 bt661.1 (⟨#[]⟩ : ByteArray)) else (some (0, 0, (⟨#[]⟩ : ByteArray), false))))
end
def value_Read.f (k : Nat) (a0 : ByteArray) : Option (Int × Int × ByteArray × Bool) := if a0.toList = ([110, 117, 108, 108] : List UInt8) then (value_Read.j1 k a0 0 0 (⟨#[]⟩ : ByteArray)) else (if a0.toList = ([116, 114, 117, 101] : List UInt8) then ((value_True.f).bind fun bt654 => (value_Read.j1 k a0 bt654.1 bt654.2.1 bt654.2.2)) else (if a0.toList = ([102, 97, 108, 115, 101] : List UInt8) then ((value_False.f).bind fun bt657 => (value_Read.j1 k a0 bt657.1 bt657.2.1 bt657.2.2)) else (if (a0.size : Int) > 1 then (if 0 < (a0.size : Int) then (if (bt a0 0) = 39 then (if 0 ≤ (wrap64 ((a0.size : Int) - 1)) then (if (wrap64 ((a0.size : Int) - 1)) < (a0.size : Int) then (value_Read.j0 k a0 ((bt a0 (wrap64 ((a0.size : Int) - 1))) == 39)) else (none)) else (none)) else (value_Read.j0 k a0 false)) else (none)) else (value_Read.j0 k a0 false))))
set_option maxHeartbeats 8000000 in
set_option maxRecDepth 100000 in
theorem value_Read.calls (k : Nat) (a0 : ByteArray) (r1 : Int) (r2 : Int) (r3 : ByteArray) (r4 : Bool) (w : World) (hL_ : LaidE w) (h : value_Read.f k a0 = some (r1, r2, r3, r4)) :
    Calls Tryz.prog 152 #[.string a0] w fun e w' => e = .returned (.tuple #[.agg #[.int .i64 r1, .int .i64 r2, .string r3], .bool r4]) ∧ Below w.heap.size w w' := by
  have hu61 := Tryz.underlying61
  have hu104 := Tryz.underlying104
  have HLD := aM hL_
  clear hL_
  have HB := aM (Below.refl w.heap.size w)
  have H : (if a0.toList = ([110, 117, 108, 108] : List UInt8) then (value_Read.j1 k a0 0 0 (⟨#[]⟩ : ByteArray)) else (if a0.toList = ([116, 114, 117, 101] : List UInt8) then ((value_True.f).bind fun bt654 => (value_Read.j1 k a0 bt654.1 bt654.2.1 bt654.2.2)) else (if a0.toList = ([102, 97, 108, 115, 101] : List UInt8) then ((value_False.f).bind fun bt657 => (value_Read.j1 k a0 bt657.1 bt657.2.1 bt657.2.2)) else (if (a0.size : Int) > 1 then (if 0 < (a0.size : Int) then (if (bt a0 0) = 39 then (if 0 ≤ (wrap64 ((a0.size : Int) - 1)) then (if (wrap64 ((a0.size : Int) - 1)) < (a0.size : Int) then (value_Read.j0 k a0 ((bt a0 (wrap64 ((a0.size : Int) - 1))) == 39)) else (none)) else (none)) else (value_Read.j0 k a0 false)) else (none)) else (value_Read.j0 k a0 false))))) = some (r1, r2, r3, r4) := h
  clear h
  have HC2 := aM H
  clear H
  go_enter Tryz.func152, Tryz.ntmps152
  go_upto_block 0 with (first | ((with_reducible refine gate_dst (N := 2) rfl ?_); (try (refine gate_guard (by rfl) ?_; dsimp only)); refine box_event ?hg (N := 2) ?hd (cs := #[.int .i64 0, .int .i64 0, .string (⟨#[]⟩ : ByteArray)]) (t := 61) ?hr ?_; (case hd => rfl); (case hg => rfl); (case hr => first | (go_simp; done) | (go_simp; rfl)); intro gb652 hg w3 hbox hb; have n0_ := aM (below_step (by repeat (first | (with_reducible first | exact HB.out | apply yA | apply yN | apply yD) | exact HB.out)) hb); have n1_ := aM (hbox); have n2_ := aM ((by rw [hg]; exact (below_size (by repeat (first | (with_reducible first | exact HB.out | apply yA | apply yN | apply yD) | exact HB.out))) : w.heap.size ≤ gb652)); have n3_ := n2_; clear HB; have HB := n0_; have BK652 := n1_; have GW652 := n2_; have GE652 := n3_; clear n0_ n1_ n2_ n3_; clear hb hbox hg) | ((with_reducible refine gate_dst (N := 4) rfl ?_); (try (refine gate_guard (by rfl) ?_; dsimp only)); refine box_event ?hg (N := 4) ?hd (cs := #[.int .i64 0, .int .i64 0, .string (⟨#[]⟩ : ByteArray)]) (t := 61) ?hr ?_; (case hd => rfl); (case hg => rfl); (case hr => first | (go_simp; done) | (go_simp; rfl)); intro gb653 hg w4 hbox hb; have n0_ := aM (blk_below (g := gb652) (o := .cells #[.int .i64 0, .int .i64 0, .string (⟨#[]⟩ : ByteArray)] 61 (0, 0)) (by (with_reducible repeat (first | refine zN ?_ _ | refine zD ?_ | refine zA ?_ _)); exact BK652.out) hb); have n1_ := aM (below_step (by repeat (first | (with_reducible first | exact HB.out | apply yA | apply yN | apply yD | refine below_set ?_ GE652.out) | exact HB.out)) hb); have n2_ := aM (hbox); have n3_ := aM ((by rw [hg]; exact (below_size (by repeat (first | (with_reducible first | exact HB.out | apply yA | apply yN | apply yD | refine below_set ?_ GE652.out) | exact HB.out))) : w.heap.size ≤ gb653)); have n4_ := n3_; have n5_ := aM ((by rw [hg]; exact Nat.ne_of_lt (blk_lt (g := gb652) (o := .cells #[.int .i64 0, .int .i64 0, .string (⟨#[]⟩ : ByteArray)] 61 (0, 0)) (by (with_reducible repeat (first | refine zN ?_ _ | refine zD ?_ | refine zA ?_ _)); exact BK652.out)) : gb652 ≠ gb653)); have n6_ := aM n5_.out.symm; clear BK652; clear HB; have BK652 := n0_; have HB := n1_; have BK653 := n2_; have GW653 := n3_; have GE653 := n4_; have NB652_653 := n5_; have NB653_652 := n6_; clear n0_ n1_ n2_ n3_ n4_ n5_ n6_; clear hb hbox hg))
  (try simp only [Act.put, List.setIfInBounds_toArray, List.set_cons_zero, List.set_cons_succ])
  go_cut [] (fun wc => ∃ (kq : Nat) (x653000_1 : Int) (x653001_1 : Int) (x653002_1 : ByteArray) (x654000_1 : Int) (x654001_1 : Int) (x654002_1 : ByteArray), Aside0 (value_Read.j1 kq a0 x654000_1 x654001_1 x654002_1 = some (r1, r2, r3, r4)) ∧ Aside0 (kq ≤ k) ∧ Aside0 (wc.heap[gb652]? = some (.cells #[.int .i64 x653000_1, .int .i64 x653001_1, .string x653002_1] 61 (0, 0))) ∧ Aside0 (wc.heap[gb653]? = some (.cells #[.int .i64 x654000_1, .int .i64 x654001_1, .string x654002_1] 61 (0, 0))) ∧ Aside0 (Below w.heap.size w wc))
  case first =>
    have H := HC2.out
    clear HC2
    by_cases c5 : a0.toList = ([110, 117, 108, 108] : List UInt8)
    · rw [if_pos c5] at H
      have c5b0 : (a0.toList == ([110, 117, 108, 108] : List UInt8)) = true := beq_iff_eq.mpr c5
      have c5b1 : (a0.toList != ([110, 117, 108, 108] : List UInt8)) = false := bne_eq_false_iff_eq.mpr c5
      clear c5
      (first | rw [c5b0] | (simp only [i64_w, i32_w]; rw [c5b0]) | skip)
      have H' := aM H
      clear H
      go_wp2
      go_meet
      case rel => exact ⟨_, (0), (0), ((⟨#[]⟩ : ByteArray)), (0), (0), ((⟨#[]⟩ : ByteArray)), H', ⟨by first | omega | exact Nat.le_refl _⟩, ⟨by (with_reducible repeat (first | refine zN ?_ _ | refine zD ?_ | refine zA ?_ _)); exact BK652.out⟩, ⟨by (with_reducible repeat (first | refine zN ?_ _ | refine zD ?_ | refine zA ?_ _)); exact BK653.out⟩, ⟨by repeat (first | (with_reducible first | exact HB.out | apply yA | apply yN | apply yD | refine below_set ?_ GE652.out | refine below_set ?_ GE653.out) | exact HB.out)⟩⟩
    · rw [if_neg c5] at H
      have c5b0 : (a0.toList == ([110, 117, 108, 108] : List UInt8)) = false := beq_eq_false_iff_ne.mpr c5
      have c5b1 : (a0.toList != ([110, 117, 108, 108] : List UInt8)) = true := bne_iff_ne.mpr c5
      (first | rw [c5b0] | (simp only [i64_w, i32_w]; rw [c5b0]) | skip)
      by_cases c6 : a0.toList = ([116, 114, 117, 101] : List UInt8)
      · rw [if_pos c6] at H
        have c6b0 : (a0.toList == ([116, 114, 117, 101] : List UInt8)) = true := beq_iff_eq.mpr c6
        have c6b1 : (a0.toList != ([116, 114, 117, 101] : List UInt8)) = false := bne_eq_false_iff_eq.mpr c6
        clear c6
        replace H := Option.bind_eq_some_iff.mp H
        obtain ⟨⟨t654, t655, t656⟩, A70, H⟩ := H
        replace H : (value_Read.j1 k a0 t654 t655 t656) = some (r1, r2, r3, r4) := H
        have A7 := aM A70
        clear A70
        have H' := aM H
        clear H
        go_wp2_with (first | ((with_reducible refine gate_callee (f := 165) rfl ?_); refine goesL_ (some 23) rfl rfl Tryz.func165 (by kernel_rfl) rfl #[] rfl (by (try simp only [List.map_toArray, List.map_cons, List.map_nil]); first | done | rfl | (simp only [List.length_drop, List.length_take]; rfl)) ?_; (with_reducible refine (value_True.calls  t654 t655 t656 _ A7.out).mono ?_); rintro e w8 ⟨rfl, hb⟩; refine ⟨_, rfl, ?_⟩; have n0_ := aM (blk_below (g := gb652) (o := .cells #[.int .i64 0, .int .i64 0, .string (⟨#[]⟩ : ByteArray)] 61 (0, 0)) (by (with_reducible repeat (first | refine zN ?_ _ | refine zD ?_ | refine zA ?_ _)); exact BK652.out) hb); have n1_ := aM (blk_below (g := gb653) (o := .cells #[.int .i64 0, .int .i64 0, .string (⟨#[]⟩ : ByteArray)] 61 (0, 0)) (by (with_reducible repeat (first | refine zN ?_ _ | refine zD ?_ | refine zA ?_ _)); exact BK653.out) hb); have n2_ := aM (below_step (by repeat (first | (with_reducible first | exact HB.out | apply yA | apply yN | apply yD | refine below_set ?_ GE652.out | refine below_set ?_ GE653.out) | exact HB.out)) hb); clear BK652; clear BK653; clear HB; have BK652 := n0_; have BK653 := n1_; have HB := n2_; clear n0_ n1_ n2_; (try clear hb); (try clear hb2); (try clear hk); (try clear hi); have hnb9 := NB653_652.out; have hnc9 := NB652_653.out; have hcz10_0 : w8.cell? ⟨gb653, 0, none⟩ = some (.int .i64 0) := (blk_cell BK653.out 0).trans rfl; have hcz10_1 : w8.cell? ⟨gb653, 1, none⟩ = some (.int .i64 0) := (blk_cell BK653.out 1).trans rfl; have hcz10_2 : w8.cell? ⟨gb653, 2, none⟩ = some (.string (⟨#[]⟩ : ByteArray)) := (blk_cell BK653.out 2).trans rfl; have hfz10_0 := blk_frozen BK653.out 0; have hfz10_1 := blk_frozen BK653.out 1; have hfz10_2 := blk_frozen BK653.out 2))
        go_meet
        case rel => exact ⟨_, (0), (0), ((⟨#[]⟩ : ByteArray)), (t654), (t655), (t656), H', ⟨by first | omega | exact Nat.le_refl _⟩, ⟨by (with_reducible repeat (first | refine zN ?_ _ | refine zD ?_ | refine zA ?_ _)); refine blk_far ?_ NB652_653.out _; (with_reducible repeat (first | refine zN ?_ _ | refine zD ?_ | refine zA ?_ _)); refine blk_far ?_ NB652_653.out _; (with_reducible repeat (first | refine zN ?_ _ | refine zD ?_ | refine zA ?_ _)); refine blk_far ?_ NB652_653.out _; (with_reducible repeat (first | refine zN ?_ _ | refine zD ?_ | refine zA ?_ _)); exact BK652.out⟩, ⟨by (with_reducible repeat (first | refine zN ?_ _ | refine zD ?_ | refine zA ?_ _)); refine blk_put (cs := #[.int .i64 t654, .int .i64 t655, .string (⟨#[]⟩ : ByteArray)]) ?_ 2 _ rfl; (with_reducible repeat (first | refine zN ?_ _ | refine zD ?_ | refine zA ?_ _)); refine blk_put (cs := #[.int .i64 t654, .int .i64 0, .string (⟨#[]⟩ : ByteArray)]) ?_ 1 _ rfl; (with_reducible repeat (first | refine zN ?_ _ | refine zD ?_ | refine zA ?_ _)); refine blk_put (cs := #[.int .i64 0, .int .i64 0, .string (⟨#[]⟩ : ByteArray)]) ?_ 0 _ rfl; (with_reducible repeat (first | refine zN ?_ _ | refine zD ?_ | refine zA ?_ _)); exact BK653.out⟩, ⟨by repeat (first | (with_reducible first | exact HB.out | apply yA | apply yN | apply yD | refine below_set ?_ GE652.out | refine below_set ?_ GE653.out) | exact HB.out)⟩⟩
      · rw [if_neg c6] at H
        have c6b0 : (a0.toList == ([116, 114, 117, 101] : List UInt8)) = false := beq_eq_false_iff_ne.mpr c6
        have c6b1 : (a0.toList != ([116, 114, 117, 101] : List UInt8)) = true := bne_iff_ne.mpr c6
        by_cases c11 : a0.toList = ([102, 97, 108, 115, 101] : List UInt8)
        · rw [if_pos c11] at H
          have c11b0 : (a0.toList == ([102, 97, 108, 115, 101] : List UInt8)) = true := beq_iff_eq.mpr c11
          have c11b1 : (a0.toList != ([102, 97, 108, 115, 101] : List UInt8)) = false := bne_eq_false_iff_eq.mpr c11
          clear c11
          replace H := Option.bind_eq_some_iff.mp H
          obtain ⟨⟨t657, t658, t659⟩, A120, H⟩ := H
          replace H : (value_Read.j1 k a0 t657 t658 t659) = some (r1, r2, r3, r4) := H
          have A12 := aM A120
          clear A120
          have H' := aM H
          clear H
          go_wp2_with (first | ((with_reducible refine gate_callee (f := 166) rfl ?_); refine goesL_ (some 27) rfl rfl Tryz.func166 (by kernel_rfl) rfl #[] rfl (by (try simp only [List.map_toArray, List.map_cons, List.map_nil]); first | done | rfl | (simp only [List.length_drop, List.length_take]; rfl)) ?_; (with_reducible refine (value_False.calls  t657 t658 t659 _ A12.out).mono ?_); rintro e w13 ⟨rfl, hb⟩; refine ⟨_, rfl, ?_⟩; have n0_ := aM (blk_below (g := gb652) (o := .cells #[.int .i64 0, .int .i64 0, .string (⟨#[]⟩ : ByteArray)] 61 (0, 0)) (by (with_reducible repeat (first | refine zN ?_ _ | refine zD ?_ | refine zA ?_ _)); exact BK652.out) hb); have n1_ := aM (blk_below (g := gb653) (o := .cells #[.int .i64 0, .int .i64 0, .string (⟨#[]⟩ : ByteArray)] 61 (0, 0)) (by (with_reducible repeat (first | refine zN ?_ _ | refine zD ?_ | refine zA ?_ _)); exact BK653.out) hb); have n2_ := aM (below_step (by repeat (first | (with_reducible first | exact HB.out | apply yA | apply yN | apply yD | refine below_set ?_ GE652.out | refine below_set ?_ GE653.out) | exact HB.out)) hb); clear BK652; clear BK653; clear HB; have BK652 := n0_; have BK653 := n1_; have HB := n2_; clear n0_ n1_ n2_; (try clear hb); (try clear hb2); (try clear hk); (try clear hi); have hnb14 := NB653_652.out; have hnc14 := NB652_653.out; have hcz15_0 : w13.cell? ⟨gb653, 0, none⟩ = some (.int .i64 0) := (blk_cell BK653.out 0).trans rfl; have hcz15_1 : w13.cell? ⟨gb653, 1, none⟩ = some (.int .i64 0) := (blk_cell BK653.out 1).trans rfl; have hcz15_2 : w13.cell? ⟨gb653, 2, none⟩ = some (.string (⟨#[]⟩ : ByteArray)) := (blk_cell BK653.out 2).trans rfl; have hfz15_0 := blk_frozen BK653.out 0; have hfz15_1 := blk_frozen BK653.out 1; have hfz15_2 := blk_frozen BK653.out 2))
          go_meet
          case rel => exact ⟨_, (0), (0), ((⟨#[]⟩ : ByteArray)), (t657), (t658), (t659), H', ⟨by first | omega | exact Nat.le_refl _⟩, ⟨by (with_reducible repeat (first | refine zN ?_ _ | refine zD ?_ | refine zA ?_ _)); refine blk_far ?_ NB652_653.out _; (with_reducible repeat (first | refine zN ?_ _ | refine zD ?_ | refine zA ?_ _)); refine blk_far ?_ NB652_653.out _; (with_reducible repeat (first | refine zN ?_ _ | refine zD ?_ | refine zA ?_ _)); refine blk_far ?_ NB652_653.out _; (with_reducible repeat (first | refine zN ?_ _ | refine zD ?_ | refine zA ?_ _)); exact BK652.out⟩, ⟨by (with_reducible repeat (first | refine zN ?_ _ | refine zD ?_ | refine zA ?_ _)); refine blk_put (cs := #[.int .i64 t657, .int .i64 t658, .string (⟨#[]⟩ : ByteArray)]) ?_ 2 _ rfl; (with_reducible repeat (first | refine zN ?_ _ | refine zD ?_ | refine zA ?_ _)); refine blk_put (cs := #[.int .i64 t657, .int .i64 0, .string (⟨#[]⟩ : ByteArray)]) ?_ 1 _ rfl; (with_reducible repeat (first | refine zN ?_ _ | refine zD ?_ | refine zA ?_ _)); refine blk_put (cs := #[.int .i64 0, .int .i64 0, .string (⟨#[]⟩ : ByteArray)]) ?_ 0 _ rfl; (with_reducible repeat (first | refine zN ?_ _ | refine zD ?_ | refine zA ?_ _)); exact BK653.out⟩, ⟨by repeat (first | (with_reducible first | exact HB.out | apply yA | apply yN | apply yD | refine below_set ?_ GE652.out | refine below_set ?_ GE653.out) | exact HB.out)⟩⟩
        · rw [if_neg c11] at H
          have c11b0 : (a0.toList == ([102, 97, 108, 115, 101] : List UInt8)) = false := beq_eq_false_iff_ne.mpr c11
          have c11b1 : (a0.toList != ([102, 97, 108, 115, 101] : List UInt8)) = true := bne_iff_ne.mpr c11
          have HC16 := aM H
          clear H
          go_upto_region 11 with (fail)
          go_cut [28] (fun v28 wc => ∃ (kq : Nat) (x28_15 : Bool), v28 = .bool x28_15 ∧ Aside0 (value_Read.j0 kq a0 x28_15 = some (r1, r2, r3, r4)) ∧ Aside0 (kq ≤ k) ∧ Aside0 (wc.heap[gb652]? = some (.cells #[.int .i64 0, .int .i64 0, .string (⟨#[]⟩ : ByteArray)] 61 (0, 0))) ∧ Aside0 (wc.heap[gb653]? = some (.cells #[.int .i64 0, .int .i64 0, .string (⟨#[]⟩ : ByteArray)] 61 (0, 0))) ∧ Aside0 (Below w.heap.size w wc))
          case first =>
            have H := HC16.out
            clear HC16
            by_cases c17 : (a0.size : Int) > 1
            · rw [if_pos c17] at H
              have c17b0 : decide (1 < (a0.size : Int)) = true := decide_eq_true c17
              have c17b1 : decide (1 < a0.size) = true := decide_eq_true (by omega)
              clear c17
              (first | rw [c17b0] | (simp only [i64_w, i32_w]; rw [c17b0]) | skip)
              by_cases c18 : 0 < (a0.size : Int)
              · rw [if_pos c18] at H
                have c18b0 : decide (0 < (a0.size : Int)) = true := decide_eq_true c18
                have c18b1 : decide (0 < a0.size) = true := decide_eq_true (by omega)
                clear c18
                by_cases c20 : (bt a0 0) = 39
                · rw [if_pos c20] at H
                  have c20b0 : ((bt a0 0) == 39) = true := beq_iff_eq.mpr c20
                  have c20b1 : ((bt a0 0) != 39) = false := bne_eq_false_iff_eq.mpr c20
                  clear c20
                  obtain ⟨ji21, hji21⟩ : ∃ j_ : Int, (wrap64 ((a0.size : Int) - 1)) = j_ := ⟨_, rfl⟩
                  replace H : (if 0 ≤ (ji21) then (if (ji21) < (a0.size : Int) then (value_Read.j0 k a0 ((bt a0 (ji21)) == 39)) else (none)) else (none)) = some (r1, r2, r3, r4) := by first | (rw [hji21] at H; exact H) | (simp only [hji21] at H ⊢; exact H)
                  have hji21w : (IntKind.i64.wrap ((a0.size : Int) - 1)) = ji21 := (i64_w _).trans hji21
                  by_cases c22 : 0 ≤ (ji21)
                  · rw [if_pos c22] at H
                    have c22b0 : decide (0 ≤ (ji21)) = true := decide_eq_true c22
                    clear c22
                    by_cases c23 : (ji21) < (a0.size : Int)
                    · rw [if_pos c23] at H
                      have c23b0 : decide ((ji21) < (a0.size : Int)) = true := decide_eq_true c23
                      clear c23
                      have H' := aM H
                      clear H
                      have p19 : 0 ≤ (0 : Int) := (by omega)
                      have q19 : 0 < a0.size := (by have : (0 : Int) < (a0.size : Int) := of_decide_eq_true (by first | (with_reducible assumption) | assumption); omega)
                      have hx19 : ∀ h : 0 < a0.size, ((a0[0]'h).toNat : Int) = bt a0 0 := bt_at a0 0
                      clear p19
                      have qi19 : (0 < (a0.size : Int)) = True := eq_true (of_decide_eq_true (by first | (with_reducible assumption) | assumption))
                      replace q19 := eq_true q19
                      have p24 : 0 ≤ ((ji21) : Int) := of_decide_eq_true (by first | (with_reducible assumption) | assumption)
                      have q24 : (ji21) < (a0.size : Int) := of_decide_eq_true (by first | (with_reducible assumption) | assumption)
                      have hx24 := bt_at a0 (ji21)
                      replace p24 := eq_true p24
                      replace q24 := eq_true q24
                      go_wp2
                      go_meet
                      case rel => exact ⟨_, (((bt a0 (ji21)) == 39)), (by first | rfl | (simp; done) | (simp only [← hji21] <;> (first | rfl | simp)) | (simp [*]; done)), (by first | exact H' | (rw [hji21]; exact H') | (simp only [hji21]; exact H')), ⟨by first | omega | exact Nat.le_refl _⟩, ⟨by (with_reducible repeat (first | refine zN ?_ _ | refine zD ?_ | refine zA ?_ _)); exact BK652.out⟩, ⟨by (with_reducible repeat (first | refine zN ?_ _ | refine zD ?_ | refine zA ?_ _)); exact BK653.out⟩, ⟨by repeat (first | (with_reducible first | exact HB.out | apply yA | apply yN | apply yD | refine below_set ?_ GE652.out | refine below_set ?_ GE653.out) | exact HB.out)⟩⟩
                    · rw [if_neg c23] at H
                      exact absurd H (by simp)
                  · rw [if_neg c22] at H
                    exact absurd H (by simp)
                · rw [if_neg c20] at H
                  have c20b0 : ((bt a0 0) == 39) = false := beq_eq_false_iff_ne.mpr c20
                  have c20b1 : ((bt a0 0) != 39) = true := bne_iff_ne.mpr c20
                  have H' := aM H
                  clear H
                  have p19 : 0 ≤ (0 : Int) := (by omega)
                  have q19 : 0 < a0.size := (by have : (0 : Int) < (a0.size : Int) := of_decide_eq_true (by first | (with_reducible assumption) | assumption); omega)
                  have hx19 : ∀ h : 0 < a0.size, ((a0[0]'h).toNat : Int) = bt a0 0 := bt_at a0 0
                  clear p19
                  have qi19 : (0 < (a0.size : Int)) = True := eq_true (of_decide_eq_true (by first | (with_reducible assumption) | assumption))
                  replace q19 := eq_true q19
                  go_wp2
                  go_meet
                  case rel => exact ⟨_, (false), (by first | rfl | (simp; done) | (simp [*]; done)), H', ⟨by first | omega | exact Nat.le_refl _⟩, ⟨by (with_reducible repeat (first | refine zN ?_ _ | refine zD ?_ | refine zA ?_ _)); exact BK652.out⟩, ⟨by (with_reducible repeat (first | refine zN ?_ _ | refine zD ?_ | refine zA ?_ _)); exact BK653.out⟩, ⟨by repeat (first | (with_reducible first | exact HB.out | apply yA | apply yN | apply yD | refine below_set ?_ GE652.out | refine below_set ?_ GE653.out) | exact HB.out)⟩⟩
              · rw [if_neg c18] at H
                exact absurd H (by simp)
            · rw [if_neg c17] at H
              have c17b0 : decide (1 < (a0.size : Int)) = false := decide_eq_false c17
              have c17b1 : decide (1 < a0.size) = false := decide_eq_false (by omega)
              clear c17
              (first | rw [c17b0] | (simp only [i64_w, i32_w]; rw [c17b0]) | skip)
              have H' := aM H
              clear H
              go_wp2
              go_meet
              case rel => exact ⟨_, (false), (by first | rfl | (simp; done) | (simp [*]; done)), H', ⟨by first | omega | exact Nat.le_refl _⟩, ⟨by (with_reducible repeat (first | refine zN ?_ _ | refine zD ?_ | refine zA ?_ _)); exact BK652.out⟩, ⟨by (with_reducible repeat (first | refine zN ?_ _ | refine zD ?_ | refine zA ?_ _)); exact BK653.out⟩, ⟨by repeat (first | (with_reducible first | exact HB.out | apply yA | apply yN | apply yD | refine below_set ?_ GE652.out | refine below_set ?_ GE653.out) | exact HB.out)⟩⟩
          case rest =>
            clear HC16
            try clear c5
            try clear c5b0
            try clear c5b1
            try clear c6
            try clear c6b0
            try clear c6b1
            try clear c11
            try clear c11b0
            try clear c11b1
            obtain ⟨kq, x28_15, rfl, HA, HJ15, BK652, BK653, HB⟩ := hcut
            cases kq with
            | zero => exact absurd HA.out (by simp [value_Read.j0])
            | succ kj15 =>
              have H := HA.out
              clear HA
              simp only [value_Read.j0] at H
              by_cases c25 : x28_15 = true
              · subst c25
                have H1 : (if 1 ≤ (wrap64 ((a0.size : Int) - 1)) then (if (wrap64 ((a0.size : Int) - 1)) ≤ (a0.size : Int) then ((strings_ReplaceAll.f (a0.extract 1 ((wrap64 ((a0.size : Int) - 1)) : Int).toNat) (⟨#[39, 39]⟩ : ByteArray) (⟨#[39]⟩ : ByteArray)).bind fun t660 => (value_Read.j1 kj15 a0 3 0 t660)) else (none)) else (none)) = some (r1, r2, r3, r4) := by rw [if_pos rfl] at H; exact H
                clear H
                have H := H1
                clear H1
                by_cases c26 : 1 ≤ (wrap64 ((a0.size : Int) - 1))
                · rw [if_pos c26] at H
                  have c26b0 := eq_true c26
                  have c26b1 : decide (1 ≤ (wrap64 ((a0.size : Int) - 1))) = true := decide_eq_true c26
                  clear c26
                  by_cases c27 : (wrap64 ((a0.size : Int) - 1)) ≤ (a0.size : Int)
                  · rw [if_pos c27] at H
                    have c27b0 := eq_true c27
                    have c27b1 : decide ((wrap64 ((a0.size : Int) - 1)) ≤ (a0.size : Int)) = true := decide_eq_true c27
                    clear c27
                    replace H := Option.bind_eq_some_iff.mp H
                    obtain ⟨t660, A280, H⟩ := H
                    replace H : (value_Read.j1 kj15 a0 3 0 t660) = some (r1, r2, r3, r4) := H
                    have A28 := aM A280
                    clear A280
                    have H' := aM H
                    clear H
                    go_wp2_with (first | ((with_reducible refine gate_callee (f := 149) rfl ?_); refine goesL_ (some 50) rfl rfl Tryz.func149 (by kernel_rfl) rfl #[.string (a0.extract 1 ((wrap64 ((a0.size : Int) - 1)) : Int).toNat), .string (⟨#[39, 39]⟩ : ByteArray), .string (⟨#[39]⟩ : ByteArray)] rfl (by (try simp only [List.map_toArray, List.map_cons, List.map_nil]); first | done | rfl | (simp only [List.length_drop, List.length_take]; rfl)) ?_; (with_reducible refine (strings_ReplaceAll.calls (a0.extract 1 ((wrap64 ((a0.size : Int) - 1)) : Int).toNat) (⟨#[39, 39]⟩ : ByteArray) (⟨#[39]⟩ : ByteArray) t660 _ ?side1 A28.out).mono ?_); (case side1 => exact Laid.below HLD.out.base (by repeat (first | (with_reducible first | exact HB.out | apply yA | apply yN | apply yD | refine below_set ?_ GE652.out | refine below_set ?_ GE653.out) | exact HB.out))); rintro e w29 ⟨rfl, hb⟩; refine ⟨_, rfl, ?_⟩; have n0_ := aM (blk_below (g := gb652) (o := .cells #[.int .i64 0, .int .i64 0, .string (⟨#[]⟩ : ByteArray)] 61 (0, 0)) (by (with_reducible repeat (first | refine zN ?_ _ | refine zD ?_ | refine zA ?_ _)); exact BK652.out) hb); have n1_ := aM (blk_below (g := gb653) (o := .cells #[.int .i64 0, .int .i64 0, .string (⟨#[]⟩ : ByteArray)] 61 (0, 0)) (by (with_reducible repeat (first | refine zN ?_ _ | refine zD ?_ | refine zA ?_ _)); exact BK653.out) hb); have n2_ := aM (below_step (by repeat (first | (with_reducible first | exact HB.out | apply yA | apply yN | apply yD | refine below_set ?_ GE652.out | refine below_set ?_ GE653.out) | exact HB.out)) hb); clear BK652; clear BK653; clear HB; have BK652 := n0_; have BK653 := n1_; have HB := n2_; clear n0_ n1_ n2_; (try clear hb); (try clear hb2); (try clear hk); (try clear hi); have hnb30 := NB653_652.out; have hnc30 := NB652_653.out; have hcz31_0 : w29.cell? ⟨gb653, 0, none⟩ = some (.int .i64 0) := (blk_cell BK653.out 0).trans rfl; have hcz31_1 : w29.cell? ⟨gb653, 1, none⟩ = some (.int .i64 0) := (blk_cell BK653.out 1).trans rfl; have hcz31_2 : w29.cell? ⟨gb653, 2, none⟩ = some (.string (⟨#[]⟩ : ByteArray)) := (blk_cell BK653.out 2).trans rfl; have hfz31_0 := blk_frozen BK653.out 0; have hfz31_1 := blk_frozen BK653.out 1; have hfz31_2 := blk_frozen BK653.out 2))
                    go_meet
                    case rel => exact ⟨_, (0), (0), ((⟨#[]⟩ : ByteArray)), (3), (0), (t660), H', ⟨by have := HJ15.out; first | omega | exact Nat.le_refl _⟩, ⟨by (with_reducible repeat (first | refine zN ?_ _ | refine zD ?_ | refine zA ?_ _)); refine blk_far ?_ NB652_653.out _; (with_reducible repeat (first | refine zN ?_ _ | refine zD ?_ | refine zA ?_ _)); refine blk_far ?_ NB652_653.out _; (with_reducible repeat (first | refine zN ?_ _ | refine zD ?_ | refine zA ?_ _)); refine blk_far ?_ NB652_653.out _; (with_reducible repeat (first | refine zN ?_ _ | refine zD ?_ | refine zA ?_ _)); exact BK652.out⟩, ⟨by (with_reducible repeat (first | refine zN ?_ _ | refine zD ?_ | refine zA ?_ _)); refine blk_put (cs := #[.int .i64 3, .int .i64 0, .string (⟨#[]⟩ : ByteArray)]) ?_ 2 _ rfl; (with_reducible repeat (first | refine zN ?_ _ | refine zD ?_ | refine zA ?_ _)); refine blk_put (cs := #[.int .i64 3, .int .i64 0, .string (⟨#[]⟩ : ByteArray)]) ?_ 1 _ rfl; (with_reducible repeat (first | refine zN ?_ _ | refine zD ?_ | refine zA ?_ _)); refine blk_put (cs := #[.int .i64 0, .int .i64 0, .string (⟨#[]⟩ : ByteArray)]) ?_ 0 _ rfl; (with_reducible repeat (first | refine zN ?_ _ | refine zD ?_ | refine zA ?_ _)); exact BK653.out⟩, ⟨by repeat (first | (with_reducible first | exact HB.out | apply yA | apply yN | apply yD | refine below_set ?_ GE652.out | refine below_set ?_ GE653.out) | exact HB.out)⟩⟩
                  · rw [if_neg c27] at H
                    exact absurd H (by simp)
                · rw [if_neg c26] at H
                  exact absurd H (by simp)
              · replace c25 := Bool.eq_false_iff.mpr c25
                subst c25
                have H1 : ((strconv_ParseInt.f a0 10 64).bind fun bt661 => (if bt661.2.isNone = true then (value_Read.j1 kj15 a0 1 bt661.1 (⟨#[]⟩ : ByteArray)) else (some (0, 0, (⟨#[]⟩ : ByteArray), false)))) = some (r1, r2, r3, r4) := by rw [if_neg (show ¬ (false = true) by decide)] at H; exact H
                clear H
                have H := H1
                clear H1
                replace H := Option.bind_eq_some_iff.mp H
                obtain ⟨⟨t661, t662⟩, A320, H⟩ := H
                replace H : (if t662.isNone = true then (value_Read.j1 kj15 a0 1 t661 (⟨#[]⟩ : ByteArray)) else (some (0, 0, (⟨#[]⟩ : ByteArray), false))) = some (r1, r2, r3, r4) := H
                have A32 := aM A320
                clear A320
                rcases t662 with _ | q663
                · have H1 : (value_Read.j1 kj15 a0 1 t661 (⟨#[]⟩ : ByteArray)) = some (r1, r2, r3, r4) := by rw [if_pos (show (none : Option Int).isNone = true by rfl)] at H; exact H
                  clear H
                  have H := H1
                  clear H1
                  try simp only [errW_none, errW_some]
                  have H' := aM H
                  clear H
                  go_wp2_with (first | ((with_reducible refine gate_callee (f := 167) rfl ?_); refine goesL_ (some 9) rfl rfl Tryz.func167 (by kernel_rfl) rfl #[.string a0, .int .i64 10, .int .i64 64] rfl (by (try simp only [List.map_toArray, List.map_cons, List.map_nil]); first | done | rfl | (simp only [List.length_drop, List.length_take]; rfl)) ?_; (with_reducible refine (strconv_ParseInt.calls a0 10 64 t661 none _ ?side1 A32.out).mono ?_); (case side1 => exact LaidE.below HLD.out (by repeat (first | (with_reducible first | exact HB.out | apply yA | apply yN | apply yD | refine below_set ?_ GE652.out | refine below_set ?_ GE653.out) | exact HB.out))); rintro e w33 ⟨ev_, rfl, hev_, hb⟩; (first | (obtain rfl := errR_none hev_) | (obtain ⟨T_, x_, rfl⟩ := errR_some hev_)); refine ⟨_, rfl, ?_⟩; have n0_ := aM (blk_below (g := gb652) (o := .cells #[.int .i64 0, .int .i64 0, .string (⟨#[]⟩ : ByteArray)] 61 (0, 0)) (by (with_reducible repeat (first | refine zN ?_ _ | refine zD ?_ | refine zA ?_ _)); exact BK652.out) hb); have n1_ := aM (blk_below (g := gb653) (o := .cells #[.int .i64 0, .int .i64 0, .string (⟨#[]⟩ : ByteArray)] 61 (0, 0)) (by (with_reducible repeat (first | refine zN ?_ _ | refine zD ?_ | refine zA ?_ _)); exact BK653.out) hb); have n2_ := aM (below_step (by repeat (first | (with_reducible first | exact HB.out | apply yA | apply yN | apply yD | refine below_set ?_ GE652.out | refine below_set ?_ GE653.out) | exact HB.out)) hb); clear BK652; clear BK653; clear HB; have BK652 := n0_; have BK653 := n1_; have HB := n2_; clear n0_ n1_ n2_; (try clear hb); (try clear hb2); (try clear hk); (try clear hi); (try simp only [errW_none, errW_some]); have hnb34 := NB653_652.out; have hnc34 := NB652_653.out; have hcz35_0 : w33.cell? ⟨gb653, 0, none⟩ = some (.int .i64 0) := (blk_cell BK653.out 0).trans rfl; have hcz35_1 : w33.cell? ⟨gb653, 1, none⟩ = some (.int .i64 0) := (blk_cell BK653.out 1).trans rfl; have hcz35_2 : w33.cell? ⟨gb653, 2, none⟩ = some (.string (⟨#[]⟩ : ByteArray)) := (blk_cell BK653.out 2).trans rfl; have hfz35_0 := blk_frozen BK653.out 0; have hfz35_1 := blk_frozen BK653.out 1; have hfz35_2 := blk_frozen BK653.out 2))
                  go_meet
                  case rel => exact ⟨_, (0), (0), ((⟨#[]⟩ : ByteArray)), (1), (t661), ((⟨#[]⟩ : ByteArray)), H', ⟨by have := HJ15.out; first | omega | exact Nat.le_refl _⟩, ⟨by (with_reducible repeat (first | refine zN ?_ _ | refine zD ?_ | refine zA ?_ _)); refine blk_far ?_ NB652_653.out _; (with_reducible repeat (first | refine zN ?_ _ | refine zD ?_ | refine zA ?_ _)); refine blk_far ?_ NB652_653.out _; (with_reducible repeat (first | refine zN ?_ _ | refine zD ?_ | refine zA ?_ _)); refine blk_far ?_ NB652_653.out _; (with_reducible repeat (first | refine zN ?_ _ | refine zD ?_ | refine zA ?_ _)); exact BK652.out⟩, ⟨by (with_reducible repeat (first | refine zN ?_ _ | refine zD ?_ | refine zA ?_ _)); refine blk_put (cs := #[.int .i64 1, .int .i64 t661, .string (⟨#[]⟩ : ByteArray)]) ?_ 2 _ rfl; (with_reducible repeat (first | refine zN ?_ _ | refine zD ?_ | refine zA ?_ _)); refine blk_put (cs := #[.int .i64 1, .int .i64 0, .string (⟨#[]⟩ : ByteArray)]) ?_ 1 _ rfl; (with_reducible repeat (first | refine zN ?_ _ | refine zD ?_ | refine zA ?_ _)); refine blk_put (cs := #[.int .i64 0, .int .i64 0, .string (⟨#[]⟩ : ByteArray)]) ?_ 0 _ rfl; (with_reducible repeat (first | refine zN ?_ _ | refine zD ?_ | refine zA ?_ _)); exact BK653.out⟩, ⟨by repeat (first | (with_reducible first | exact HB.out | apply yA | apply yN | apply yD | refine below_set ?_ GE652.out | refine below_set ?_ GE653.out) | exact HB.out)⟩⟩
                · have H1 : (some (0, 0, (⟨#[]⟩ : ByteArray), false)) = some (r1, r2, r3, r4) := by rw [if_neg (show ¬ (some q663).isNone = true by simp)] at H; exact H
                  clear H
                  have H := H1
                  clear H1
                  try simp only [errW_none, errW_some]
                  simp only [Option.some.injEq, Prod.mk.injEq] at H
                  obtain ⟨rfl, rfl, rfl, rfl⟩ := H
                  go_wp2_with (first | ((with_reducible refine gate_callee (f := 167) rfl ?_); refine goesL_ (some 9) rfl rfl Tryz.func167 (by kernel_rfl) rfl #[.string a0, .int .i64 10, .int .i64 64] rfl (by (try simp only [List.map_toArray, List.map_cons, List.map_nil]); first | done | rfl | (simp only [List.length_drop, List.length_take]; rfl)) ?_; (with_reducible refine (strconv_ParseInt.calls a0 10 64 t661 (some q663) _ ?side1 A32.out).mono ?_); (case side1 => exact LaidE.below HLD.out (by repeat (first | (with_reducible first | exact HB.out | apply yA | apply yN | apply yD | refine below_set ?_ GE652.out | refine below_set ?_ GE653.out) | exact HB.out))); rintro e w36 ⟨ev_, rfl, hev_, hb⟩; (first | (obtain rfl := errR_none hev_) | (obtain ⟨T_, x_, rfl⟩ := errR_some hev_)); refine ⟨_, rfl, ?_⟩; have n0_ := aM (blk_below (g := gb652) (o := .cells #[.int .i64 0, .int .i64 0, .string (⟨#[]⟩ : ByteArray)] 61 (0, 0)) (by (with_reducible repeat (first | refine zN ?_ _ | refine zD ?_ | refine zA ?_ _)); exact BK652.out) hb); have n1_ := aM (blk_below (g := gb653) (o := .cells #[.int .i64 0, .int .i64 0, .string (⟨#[]⟩ : ByteArray)] 61 (0, 0)) (by (with_reducible repeat (first | refine zN ?_ _ | refine zD ?_ | refine zA ?_ _)); exact BK653.out) hb); have n2_ := aM (below_step (by repeat (first | (with_reducible first | exact HB.out | apply yA | apply yN | apply yD | refine below_set ?_ GE652.out | refine below_set ?_ GE653.out) | exact HB.out)) hb); clear BK652; clear BK653; clear HB; have BK652 := n0_; have BK653 := n1_; have HB := n2_; clear n0_ n1_ n2_; (try clear hb); (try clear hb2); (try clear hk); (try clear hi); (try simp only [errW_none, errW_some]); have hnb37 := NB652_653.out; have hnc37 := NB653_652.out; have hcz38_0 : w36.cell? ⟨gb652, 0, none⟩ = some (.int .i64 0) := (blk_cell BK652.out 0).trans rfl; have hcz38_1 : w36.cell? ⟨gb652, 1, none⟩ = some (.int .i64 0) := (blk_cell BK652.out 1).trans rfl; have hcz38_2 : w36.cell? ⟨gb652, 2, none⟩ = some (.string (⟨#[]⟩ : ByteArray)) := (blk_cell BK652.out 2).trans rfl; have hfz38_0 := blk_frozen BK652.out 0; have hfz38_1 := blk_frozen BK652.out 1; have hfz38_2 := blk_frozen BK652.out 2))
                  refine bodyPost_ret (results_ct rfl _ _ gb652 61 #[.int .i64 0, .int .i64 0, .string (⟨#[]⟩ : ByteArray)] (0, 0) _ rfl (by (with_reducible repeat (first | refine zN ?_ _ | refine zD ?_ | refine zA ?_ _)); refine blk_put (cs := #[.int .i64 0, .int .i64 0, .string (⟨#[]⟩ : ByteArray)]) ?_ 2 _ rfl; (with_reducible repeat (first | refine zN ?_ _ | refine zD ?_ | refine zA ?_ _)); refine blk_put (cs := #[.int .i64 0, .int .i64 0, .string (⟨#[]⟩ : ByteArray)]) ?_ 1 _ rfl; (with_reducible repeat (first | refine zN ?_ _ | refine zD ?_ | refine zA ?_ _)); refine blk_put (cs := #[.int .i64 0, .int .i64 0, .string (⟨#[]⟩ : ByteArray)]) ?_ 0 _ rfl; (with_reducible repeat (first | refine zN ?_ _ | refine zD ?_ | refine zA ?_ _)); exact BK652.out) Tryz.underlying61 rfl (by kernel_rfl)) rfl ?_
                  exact ⟨by first | rfl | (simp [errW_none, errW_some] <;> rfl) | (simp [*, errW_none, errW_some] <;> rfl), by repeat (first | (with_reducible first | exact HB.out | apply yA | apply yN | apply yD | refine below_set ?_ GE652.out | refine below_set ?_ GE653.out) | exact HB.out)⟩
  case rest =>
    clear HC2
    obtain ⟨kq, x653000_1, x653001_1, x653002_1, x654000_1, x654001_1, x654002_1, HA, HJ1, BK652, BK653, HB⟩ := hcut
    cases kq with
    | zero => exact absurd HA.out (by simp [value_Read.j1])
    | succ kj1 =>
      have H := HA.out
      clear HA
      simp only [value_Read.j1] at H
      replace H := Option.bind_eq_some_iff.mp H
      obtain ⟨t664, A390, H⟩ := H
      replace H : (if t664 = true then ((value_Written.f x654000_1 x654001_1 x654002_1).bind fun t665 => (if t665.toList = a0.toList then (some (x654000_1, x654001_1, x654002_1, true)) else (some (0, 0, (⟨#[]⟩ : ByteArray), false)))) else (some (0, 0, (⟨#[]⟩ : ByteArray), false))) = some (r1, r2, r3, r4) := H
      have A39 := aM A390
      clear A390
      by_cases c40 : t664 = true
      · subst c40
        have H1 : ((value_Written.f x654000_1 x654001_1 x654002_1).bind fun t665 => (if t665.toList = a0.toList then (some (x654000_1, x654001_1, x654002_1, true)) else (some (0, 0, (⟨#[]⟩ : ByteArray), false)))) = some (r1, r2, r3, r4) := by rw [if_pos rfl] at H; exact H
        clear H
        have H := H1
        clear H1
        replace H := Option.bind_eq_some_iff.mp H
        obtain ⟨t665, A410, H⟩ := H
        replace H : (if t665.toList = a0.toList then (some (x654000_1, x654001_1, x654002_1, true)) else (some (0, 0, (⟨#[]⟩ : ByteArray), false))) = some (r1, r2, r3, r4) := H
        have A41 := aM A410
        clear A410
        by_cases c42 : t665.toList = a0.toList
        · rw [if_pos c42] at H
          have c42b0 : (t665.toList == a0.toList) = true := beq_iff_eq.mpr c42
          have c42b1 : (t665.toList != a0.toList) = false := bne_eq_false_iff_eq.mpr c42
          clear c42
          simp only [Option.some.injEq, Prod.mk.injEq] at H
          obtain ⟨rfl, rfl, rfl, rfl⟩ := H
          have hnb43 := NB653_652.out
          have hnc43 := NB652_653.out
          have hcz44_0 : wc.cell? ⟨gb653, 0, none⟩ = some (.int .i64 x654000_1) := (blk_cell BK653.out 0).trans rfl
          have hcz44_1 : wc.cell? ⟨gb653, 1, none⟩ = some (.int .i64 x654001_1) := (blk_cell BK653.out 1).trans rfl
          have hcz44_2 : wc.cell? ⟨gb653, 2, none⟩ = some (.string x654002_1) := (blk_cell BK653.out 2).trans rfl
          have hfz44_0 := blk_frozen BK653.out 0
          have hfz44_1 := blk_frozen BK653.out 1
          have hfz44_2 := blk_frozen BK653.out 2
          go_wp2_with (first | ((with_reducible refine gate_callee (f := 89) rfl ?_); refine goesL_ (some 53) rfl rfl Tryz.func89 (by kernel_rfl) rfl #[.agg #[.int .i64 x654000_1, .int .i64 x654001_1, .string x654002_1]] rfl (by (try simp only [List.map_toArray, List.map_cons, List.map_nil]); first | done | rfl | (simp only [List.length_drop, List.length_take]; rfl)) ?_; (with_reducible refine (value_Is_s.calls x654000_1 x654001_1 x654002_1 true _ A39.out).mono ?_); rintro e w45 ⟨rfl, hb⟩; refine ⟨_, rfl, ?_⟩; have n0_ := aM (blk_below (g := gb652) (o := .cells #[.int .i64 x653000_1, .int .i64 x653001_1, .string x653002_1] 61 (0, 0)) (by (with_reducible repeat (first | refine zN ?_ _ | refine zD ?_ | refine zA ?_ _)); exact BK652.out) hb); have n1_ := aM (blk_below (g := gb653) (o := .cells #[.int .i64 x654000_1, .int .i64 x654001_1, .string x654002_1] 61 (0, 0)) (by (with_reducible repeat (first | refine zN ?_ _ | refine zD ?_ | refine zA ?_ _)); exact BK653.out) hb); have n2_ := aM (below_step (by repeat (first | (with_reducible first | exact HB.out | apply yA | apply yN | apply yD | refine below_set ?_ GE652.out | refine below_set ?_ GE653.out) | exact HB.out)) hb); clear BK652; clear BK653; clear HB; have BK652 := n0_; have BK653 := n1_; have HB := n2_; clear n0_ n1_ n2_; (try clear hb); (try clear hb2); (try clear hk); (try clear hi); have hcz46_0 : w45.cell? ⟨gb653, 0, none⟩ = some (.int .i64 x654000_1) := (blk_cell BK653.out 0).trans rfl; have hcz46_1 : w45.cell? ⟨gb653, 1, none⟩ = some (.int .i64 x654001_1) := (blk_cell BK653.out 1).trans rfl; have hcz46_2 : w45.cell? ⟨gb653, 2, none⟩ = some (.string x654002_1) := (blk_cell BK653.out 2).trans rfl; have hfz46_0 := blk_frozen BK653.out 0; have hfz46_1 := blk_frozen BK653.out 1; have hfz46_2 := blk_frozen BK653.out 2) | (go_at_call 117; (with_reducible refine (value_Written.calls x654000_1 x654001_1 x654002_1 t665 _ ?side1 A41.out).mono ?_); (case side1 => exact Laid.below HLD.out.base (by repeat (first | (with_reducible first | exact HB.out | apply yA | apply yN | apply yD | refine below_set ?_ GE652.out | refine below_set ?_ GE653.out) | exact HB.out))); rintro e w47 ⟨rfl, hb⟩; have n0_ := aM (blk_below (g := gb652) (o := .cells #[.int .i64 x653000_1, .int .i64 x653001_1, .string x653002_1] 61 (0, 0)) (by (with_reducible repeat (first | refine zN ?_ _ | refine zD ?_ | refine zA ?_ _)); exact BK652.out) hb); have n1_ := aM (blk_below (g := gb653) (o := .cells #[.int .i64 x654000_1, .int .i64 x654001_1, .string x654002_1] 61 (0, 0)) (by (with_reducible repeat (first | refine zN ?_ _ | refine zD ?_ | refine zA ?_ _)); exact BK653.out) hb); have n2_ := aM (below_step (by repeat (first | (with_reducible first | exact HB.out | apply yA | apply yN | apply yD | refine below_set ?_ GE652.out | refine below_set ?_ GE653.out) | exact HB.out)) hb); clear BK652; clear BK653; clear HB; have BK652 := n0_; have BK653 := n1_; have HB := n2_; clear n0_ n1_ n2_; (try clear hb); (try clear hb2); (try clear hk); (try clear hi); have hcz48_0 : w47.cell? ⟨gb653, 0, none⟩ = some (.int .i64 x654000_1) := (blk_cell BK653.out 0).trans rfl; have hcz48_1 : w47.cell? ⟨gb653, 1, none⟩ = some (.int .i64 x654001_1) := (blk_cell BK653.out 1).trans rfl; have hcz48_2 : w47.cell? ⟨gb653, 2, none⟩ = some (.string x654002_1) := (blk_cell BK653.out 2).trans rfl; have hfz48_0 := blk_frozen BK653.out 0; have hfz48_1 := blk_frozen BK653.out 1; have hfz48_2 := blk_frozen BK653.out 2; have hcz49_0 : w47.cell? ⟨gb652, 0, none⟩ = some (.int .i64 x653000_1) := (blk_cell BK652.out 0).trans rfl; have hcz49_1 : w47.cell? ⟨gb652, 1, none⟩ = some (.int .i64 x653001_1) := (blk_cell BK652.out 1).trans rfl; have hcz49_2 : w47.cell? ⟨gb652, 2, none⟩ = some (.string x653002_1) := (blk_cell BK652.out 2).trans rfl; have hfz49_0 := blk_frozen BK652.out 0; have hfz49_1 := blk_frozen BK652.out 1; have hfz49_2 := blk_frozen BK652.out 2))
          refine bodyPost_ret (results_ct rfl _ _ gb652 61 #[.int .i64 x654000_1, .int .i64 x654001_1, .string x654002_1] (0, 0) _ rfl (by (with_reducible repeat (first | refine zN ?_ _ | refine zD ?_ | refine zA ?_ _)); refine blk_put (cs := #[.int .i64 x654000_1, .int .i64 x654001_1, .string x653002_1]) ?_ 2 _ rfl; (with_reducible repeat (first | refine zN ?_ _ | refine zD ?_ | refine zA ?_ _)); refine blk_put (cs := #[.int .i64 x654000_1, .int .i64 x653001_1, .string x653002_1]) ?_ 1 _ rfl; (with_reducible repeat (first | refine zN ?_ _ | refine zD ?_ | refine zA ?_ _)); refine blk_put (cs := #[.int .i64 x653000_1, .int .i64 x653001_1, .string x653002_1]) ?_ 0 _ rfl; (with_reducible repeat (first | refine zN ?_ _ | refine zD ?_ | refine zA ?_ _)); exact BK652.out) Tryz.underlying61 rfl (by kernel_rfl)) rfl ?_
          exact ⟨by first | rfl | (simp [errW_none, errW_some] <;> rfl) | (simp [*, errW_none, errW_some] <;> rfl), by repeat (first | (with_reducible first | exact HB.out | apply yA | apply yN | apply yD | refine below_set ?_ GE652.out | refine below_set ?_ GE653.out) | exact HB.out)⟩
        · rw [if_neg c42] at H
          have c42b0 : (t665.toList == a0.toList) = false := beq_eq_false_iff_ne.mpr c42
          have c42b1 : (t665.toList != a0.toList) = true := bne_iff_ne.mpr c42
          simp only [Option.some.injEq, Prod.mk.injEq] at H
          obtain ⟨rfl, rfl, rfl, rfl⟩ := H
          have hnb50 := NB653_652.out
          have hnc50 := NB652_653.out
          have hcz51_0 : wc.cell? ⟨gb653, 0, none⟩ = some (.int .i64 x654000_1) := (blk_cell BK653.out 0).trans rfl
          have hcz51_1 : wc.cell? ⟨gb653, 1, none⟩ = some (.int .i64 x654001_1) := (blk_cell BK653.out 1).trans rfl
          have hcz51_2 : wc.cell? ⟨gb653, 2, none⟩ = some (.string x654002_1) := (blk_cell BK653.out 2).trans rfl
          have hfz51_0 := blk_frozen BK653.out 0
          have hfz51_1 := blk_frozen BK653.out 1
          have hfz51_2 := blk_frozen BK653.out 2
          go_wp2_with (first | ((with_reducible refine gate_callee (f := 89) rfl ?_); refine goesL_ (some 53) rfl rfl Tryz.func89 (by kernel_rfl) rfl #[.agg #[.int .i64 x654000_1, .int .i64 x654001_1, .string x654002_1]] rfl (by (try simp only [List.map_toArray, List.map_cons, List.map_nil]); first | done | rfl | (simp only [List.length_drop, List.length_take]; rfl)) ?_; (with_reducible refine (value_Is_s.calls x654000_1 x654001_1 x654002_1 true _ A39.out).mono ?_); rintro e w52 ⟨rfl, hb⟩; refine ⟨_, rfl, ?_⟩; have n0_ := aM (blk_below (g := gb652) (o := .cells #[.int .i64 x653000_1, .int .i64 x653001_1, .string x653002_1] 61 (0, 0)) (by (with_reducible repeat (first | refine zN ?_ _ | refine zD ?_ | refine zA ?_ _)); exact BK652.out) hb); have n1_ := aM (blk_below (g := gb653) (o := .cells #[.int .i64 x654000_1, .int .i64 x654001_1, .string x654002_1] 61 (0, 0)) (by (with_reducible repeat (first | refine zN ?_ _ | refine zD ?_ | refine zA ?_ _)); exact BK653.out) hb); have n2_ := aM (below_step (by repeat (first | (with_reducible first | exact HB.out | apply yA | apply yN | apply yD | refine below_set ?_ GE652.out | refine below_set ?_ GE653.out) | exact HB.out)) hb); clear BK652; clear BK653; clear HB; have BK652 := n0_; have BK653 := n1_; have HB := n2_; clear n0_ n1_ n2_; (try clear hb); (try clear hb2); (try clear hk); (try clear hi); have hcz53_0 : w52.cell? ⟨gb653, 0, none⟩ = some (.int .i64 x654000_1) := (blk_cell BK653.out 0).trans rfl; have hcz53_1 : w52.cell? ⟨gb653, 1, none⟩ = some (.int .i64 x654001_1) := (blk_cell BK653.out 1).trans rfl; have hcz53_2 : w52.cell? ⟨gb653, 2, none⟩ = some (.string x654002_1) := (blk_cell BK653.out 2).trans rfl; have hfz53_0 := blk_frozen BK653.out 0; have hfz53_1 := blk_frozen BK653.out 1; have hfz53_2 := blk_frozen BK653.out 2) | (go_at_call 117; (with_reducible refine (value_Written.calls x654000_1 x654001_1 x654002_1 t665 _ ?side1 A41.out).mono ?_); (case side1 => exact Laid.below HLD.out.base (by repeat (first | (with_reducible first | exact HB.out | apply yA | apply yN | apply yD | refine below_set ?_ GE652.out | refine below_set ?_ GE653.out) | exact HB.out))); rintro e w54 ⟨rfl, hb⟩; have n0_ := aM (blk_below (g := gb652) (o := .cells #[.int .i64 x653000_1, .int .i64 x653001_1, .string x653002_1] 61 (0, 0)) (by (with_reducible repeat (first | refine zN ?_ _ | refine zD ?_ | refine zA ?_ _)); exact BK652.out) hb); have n1_ := aM (blk_below (g := gb653) (o := .cells #[.int .i64 x654000_1, .int .i64 x654001_1, .string x654002_1] 61 (0, 0)) (by (with_reducible repeat (first | refine zN ?_ _ | refine zD ?_ | refine zA ?_ _)); exact BK653.out) hb); have n2_ := aM (below_step (by repeat (first | (with_reducible first | exact HB.out | apply yA | apply yN | apply yD | refine below_set ?_ GE652.out | refine below_set ?_ GE653.out) | exact HB.out)) hb); clear BK652; clear BK653; clear HB; have BK652 := n0_; have BK653 := n1_; have HB := n2_; clear n0_ n1_ n2_; (try clear hb); (try clear hb2); (try clear hk); (try clear hi); have hcz55_0 : w54.cell? ⟨gb652, 0, none⟩ = some (.int .i64 x653000_1) := (blk_cell BK652.out 0).trans rfl; have hcz55_1 : w54.cell? ⟨gb652, 1, none⟩ = some (.int .i64 x653001_1) := (blk_cell BK652.out 1).trans rfl; have hcz55_2 : w54.cell? ⟨gb652, 2, none⟩ = some (.string x653002_1) := (blk_cell BK652.out 2).trans rfl; have hfz55_0 := blk_frozen BK652.out 0; have hfz55_1 := blk_frozen BK652.out 1; have hfz55_2 := blk_frozen BK652.out 2))
          refine bodyPost_ret (results_ct rfl _ _ gb652 61 #[.int .i64 0, .int .i64 0, .string (⟨#[]⟩ : ByteArray)] (0, 0) _ rfl (by (with_reducible repeat (first | refine zN ?_ _ | refine zD ?_ | refine zA ?_ _)); refine blk_put (cs := #[.int .i64 0, .int .i64 0, .string x653002_1]) ?_ 2 _ rfl; (with_reducible repeat (first | refine zN ?_ _ | refine zD ?_ | refine zA ?_ _)); refine blk_put (cs := #[.int .i64 0, .int .i64 x653001_1, .string x653002_1]) ?_ 1 _ rfl; (with_reducible repeat (first | refine zN ?_ _ | refine zD ?_ | refine zA ?_ _)); refine blk_put (cs := #[.int .i64 x653000_1, .int .i64 x653001_1, .string x653002_1]) ?_ 0 _ rfl; (with_reducible repeat (first | refine zN ?_ _ | refine zD ?_ | refine zA ?_ _)); exact BK652.out) Tryz.underlying61 rfl (by kernel_rfl)) rfl ?_
          exact ⟨by first | rfl | (simp [errW_none, errW_some] <;> rfl) | (simp [*, errW_none, errW_some] <;> rfl), by repeat (first | (with_reducible first | exact HB.out | apply yA | apply yN | apply yD | refine below_set ?_ GE652.out | refine below_set ?_ GE653.out) | exact HB.out)⟩
      · replace c40 := Bool.eq_false_iff.mpr c40
        subst c40
        have H1 : (some (0, 0, (⟨#[]⟩ : ByteArray), false)) = some (r1, r2, r3, r4) := by rw [if_neg (show ¬ (false = true) by decide)] at H; exact H
        clear H
        have H := H1
        clear H1
        simp only [Option.some.injEq, Prod.mk.injEq] at H
        obtain ⟨rfl, rfl, rfl, rfl⟩ := H
        have hnb56 := NB653_652.out
        have hnc56 := NB652_653.out
        have hcz57_0 : wc.cell? ⟨gb653, 0, none⟩ = some (.int .i64 x654000_1) := (blk_cell BK653.out 0).trans rfl
        have hcz57_1 : wc.cell? ⟨gb653, 1, none⟩ = some (.int .i64 x654001_1) := (blk_cell BK653.out 1).trans rfl
        have hcz57_2 : wc.cell? ⟨gb653, 2, none⟩ = some (.string x654002_1) := (blk_cell BK653.out 2).trans rfl
        have hfz57_0 := blk_frozen BK653.out 0
        have hfz57_1 := blk_frozen BK653.out 1
        have hfz57_2 := blk_frozen BK653.out 2
        go_wp2_with (first | ((with_reducible refine gate_callee (f := 89) rfl ?_); refine goesL_ (some 53) rfl rfl Tryz.func89 (by kernel_rfl) rfl #[.agg #[.int .i64 x654000_1, .int .i64 x654001_1, .string x654002_1]] rfl (by (try simp only [List.map_toArray, List.map_cons, List.map_nil]); first | done | rfl | (simp only [List.length_drop, List.length_take]; rfl)) ?_; (with_reducible refine (value_Is_s.calls x654000_1 x654001_1 x654002_1 false _ A39.out).mono ?_); rintro e w58 ⟨rfl, hb⟩; refine ⟨_, rfl, ?_⟩; have n0_ := aM (blk_below (g := gb652) (o := .cells #[.int .i64 x653000_1, .int .i64 x653001_1, .string x653002_1] 61 (0, 0)) (by (with_reducible repeat (first | refine zN ?_ _ | refine zD ?_ | refine zA ?_ _)); exact BK652.out) hb); have n1_ := aM (blk_below (g := gb653) (o := .cells #[.int .i64 x654000_1, .int .i64 x654001_1, .string x654002_1] 61 (0, 0)) (by (with_reducible repeat (first | refine zN ?_ _ | refine zD ?_ | refine zA ?_ _)); exact BK653.out) hb); have n2_ := aM (below_step (by repeat (first | (with_reducible first | exact HB.out | apply yA | apply yN | apply yD | refine below_set ?_ GE652.out | refine below_set ?_ GE653.out) | exact HB.out)) hb); clear BK652; clear BK653; clear HB; have BK652 := n0_; have BK653 := n1_; have HB := n2_; clear n0_ n1_ n2_; (try clear hb); (try clear hb2); (try clear hk); (try clear hi); have hcz59_0 : w58.cell? ⟨gb652, 0, none⟩ = some (.int .i64 x653000_1) := (blk_cell BK652.out 0).trans rfl; have hcz59_1 : w58.cell? ⟨gb652, 1, none⟩ = some (.int .i64 x653001_1) := (blk_cell BK652.out 1).trans rfl; have hcz59_2 : w58.cell? ⟨gb652, 2, none⟩ = some (.string x653002_1) := (blk_cell BK652.out 2).trans rfl; have hfz59_0 := blk_frozen BK652.out 0; have hfz59_1 := blk_frozen BK652.out 1; have hfz59_2 := blk_frozen BK652.out 2))
        refine bodyPost_ret (results_ct rfl _ _ gb652 61 #[.int .i64 0, .int .i64 0, .string (⟨#[]⟩ : ByteArray)] (0, 0) _ rfl (by (with_reducible repeat (first | refine zN ?_ _ | refine zD ?_ | refine zA ?_ _)); refine blk_put (cs := #[.int .i64 0, .int .i64 0, .string x653002_1]) ?_ 2 _ rfl; (with_reducible repeat (first | refine zN ?_ _ | refine zD ?_ | refine zA ?_ _)); refine blk_put (cs := #[.int .i64 0, .int .i64 x653001_1, .string x653002_1]) ?_ 1 _ rfl; (with_reducible repeat (first | refine zN ?_ _ | refine zD ?_ | refine zA ?_ _)); refine blk_put (cs := #[.int .i64 x653000_1, .int .i64 x653001_1, .string x653002_1]) ?_ 0 _ rfl; (with_reducible repeat (first | refine zN ?_ _ | refine zD ?_ | refine zA ?_ _)); exact BK652.out) Tryz.underlying61 rfl (by kernel_rfl)) rfl ?_
        exact ⟨by first | rfl | (simp [errW_none, errW_some] <;> rfl) | (simp [*, errW_none, errW_some] <;> rfl), by repeat (first | (with_reducible first | exact HB.out | apply yA | apply yN | apply yD | refine below_set ?_ GE652.out | refine below_set ?_ GE653.out) | exact HB.out)⟩
theorem value_Read.j1_at (k : Nat) (x : ByteArray) (a b : Int) (c : ByteArray) (hb : inI64 b = true) :
    value_Read.j1 (k + 1) x a b c = some (if isB a b c = true ∧ writL a b c = x.data.toList then (a, b, c, true) else (0, 0, ⟨#[]⟩, false)) := by
  simp only [value_Read.j1, value_Is_s.f, Option.bind_some]
  by_cases h : isB a b c = true
  · rw [if_pos h]
    unfold value_Written.f okV
    rw [h, hb]
    simp only [Bool.and_self, if_true, Option.bind_some, ByteArray.toList_eq]
    unfold writ
    rw [ofL_data]
    by_cases h2 : writL a b c = x.data.toList
    · rw [if_pos h2, if_pos ⟨trivial, h2⟩]
    · rw [if_neg h2, if_neg (fun z => h2 z.2)]
  · rw [if_neg h, if_neg (fun z => h z.1)]
theorem value_Read.j0_at (s : ByteArray) (hs : s.size ≤ 20000) (hq : quoted s = true → 2 ≤ s.size) : value_Read.j0 3 s (quoted s) = some (match (if quoted s = true then some (3, 0, ofL (Lib.replaceAll (s.extract 1 (s.size - 1)).data.toList [39, 39] [39])) else match Lib.parseIntB 64 s.data.toList with | .ok v => some (1, v, (⟨#[]⟩ : ByteArray)) | _ => none : Option (Int × Int × ByteArray)) with | some (a, b, c) => if isB a b c = true ∧ writL a b c = s.data.toList then (a, b, c, true) else (0, 0, ⟨#[]⟩, false) | none => (0, 0, ⟨#[]⟩, false)) := by
  simp only [value_Read.j0]
  by_cases h : quoted s = true
  · have h2 := hq h
    rw [if_pos h, if_pos h, wrap_small (by omega) (by omega), if_pos (by omega), if_pos (by omega)]
    have e : (((s.size : Int) - 1) : Int).toNat = s.size - 1 := by omega
    rw [e]
    have hc := countB_le (s.extract 1 (s.size - 1)) ⟨#[39, 39]⟩ (by decide)
    have h1 : (⟨#[39]⟩ : ByteArray).size = 1 := rfl
    have h3 : (⟨#[39, 39]⟩ : ByteArray).size = 2 := rfl
    have hx : (s.extract 1 (s.size - 1)).size ≤ 20000 := by rw [ByteArray.size_extract]; omega
    unfold strings_ReplaceAll.f
    rw [if_pos ⟨by omega, by omega, by rw [h1]; omega⟩, show (⟨#[39]⟩ : ByteArray).data.toList = [39] from rfl, show (⟨#[39, 39]⟩ : ByteArray).data.toList = [39, 39] from rfl]
    simp only [Option.bind_some]
    rw [value_Read.j1_at _ _ _ _ _ (by decide)]
  · rw [if_neg h, if_neg h]
    unfold strconv_ParseInt.f
    rw [if_pos ⟨by omega, rfl, rfl⟩]
    cases hp : Lib.parseIntB 64 s.data.toList with
    | ok v =>
      simp only [Option.bind_some, Option.isNone_none, if_true]
      have hb := Lib.parseIntB_bounds hp
      have hB : ((2 ^ (64 - 1) : Nat) : Int) = 9223372036854775808 := rfl
      rw [hB] at hb
      rw [value_Read.j1_at _ _ _ _ _ (inI64_mk hb.1 (by omega))]
    | _ => simp
theorem quoted_at (s : ByteArray) (hs : s.size ≤ 20000) : (if (s.size : Int) > 1 then (if 0 < (s.size : Int) then (if (bt s 0) = 39 then (if 0 ≤ (wrap64 ((s.size : Int) - 1)) then (if (wrap64 ((s.size : Int) - 1)) < (s.size : Int) then (value_Read.j0 3 s ((bt s (wrap64 ((s.size : Int) - 1))) == 39)) else (none)) else (none)) else (value_Read.j0 3 s false)) else (none)) else (value_Read.j0 3 s false)) = value_Read.j0 3 s (quoted s) := by
  unfold quoted
  by_cases h : 1 < s.size
  · rw [if_pos (by omega), if_pos (by omega), wrap_small (by omega) (by omega)]
    by_cases h0 : bt s 0 = 39
    · rw [if_pos h0, if_pos (by omega), if_pos (by omega)]; simp [h, h0]
    · rw [if_neg h0, show (bt s 0 == 39) = false from beq_eq_false_iff_ne.2 h0]; simp
  · rw [if_neg (by omega)]; simp [h]
theorem value_Read.at (s : ByteArray) (hs : s.size ≤ 20000) : value_Read.f 3 s = some (readC s) := by
  unfold value_Read.f
  rw [quoted_at s hs]
  unfold readC cand
  simp only [ByteArray.toList_eq, value_True.f, value_False.f, Option.bind_some]
  by_cases h1 : s.data.toList = [110, 117, 108, 108]
  · simp only [if_pos h1]; exact value_Read.j1_at _ _ _ _ _ (by decide)
  simp only [if_neg h1]
  by_cases h2 : s.data.toList = [116, 114, 117, 101]
  · simp only [if_pos h2]; exact value_Read.j1_at _ _ _ _ _ (by decide)
  simp only [if_neg h2]
  by_cases h3 : s.data.toList = [102, 97, 108, 115, 101]
  · simp only [if_pos h3]; exact value_Read.j1_at _ _ _ _ _ (by decide)
  simp only [if_neg h3]
  refine value_Read.j0_at s hs (fun hq => ?_)
  unfold quoted at hq
  simp only [Bool.and_eq_true, decide_eq_true_eq] at hq
  omega
def value_Read_s.f (a0 : ByteArray) : Option (Int × Int × ByteArray × Bool) := if a0.size ≤ 20000 then some (readC a0) else none
theorem value_Read_s.calls (a0 : ByteArray) (r1 : Int) (r2 : Int) (r3 : ByteArray) (r4 : Bool) (w : World) (hL_ : LaidE w) (h : value_Read_s.f a0 = some (r1, r2, r3, r4)) :
  Calls Tryz.prog 152 #[.string a0] w fun e w' => e = .returned (.tuple #[.agg #[.int .i64 r1, .int .i64 r2, .string r3], .bool r4]) ∧ Below w.heap.size w w' := by
 unfold value_Read_s.f at h
 by_cases hs : a0.size ≤ 20000
 ·rw [if_pos hs] at h
  exact value_Read.calls 3 a0 r1 r2 r3 r4 w hL_ (by rw [value_Read.at a0 hs]; exact h)
 ·rw [if_neg hs] at h; cases h
mutual
def rows_Value.l0 : Nat → ByteArray → Int → Option (Int × Int × ByteArray × Int)
  | 0, _, _ => none
  | k + 1, x0, x4 => if x4 < (x0.size : Int) then (if 0 ≤ x4 then (if (bt x0 x4) = 39 then (if (wrap64 (x4 + 1)) < (x0.size : Int) then (if 0 ≤ (wrap64 (x4 + 1)) then (rows_Value.j1 k x0 x4 ((bt x0 (wrap64 (x4 + 1))) == 39)) else (none)) else (rows_Value.j1 k x0 x4 false)) else (rows_Value.l0 k x0 (wrap64 (x4 + 1)))) else (none)) else (some (0, 0, (⟨#[]⟩ : ByteArray), 0))
def rows_Value.j1 : Nat → ByteArray → Int → Bool → Option (Int × Int × ByteArray × Int)
  | 0, _, _, _ => none
  | k + 1, x0, x4, x32 => if x32 = true then (rows_Value.l0 k x0 (wrap64 (x4 + 2))) else (if 0 ≤ (wrap64 (x4 + 1)) then (if (wrap64 (x4 + 1)) ≤ (x0.size : Int) then ((value_Read_s.f (x0.extract 0 ((wrap64 (x4 + 1)) : Int).toNat)).bind fun bt668 => (if bt668.2.2.2 = true then (some (bt668.1, bt668.2.1, bt668.2.2.1, wrap64 (x4 + 1))) else (some (0, 0, (⟨#[]⟩ : ByteArray), 0)))) else (none)) else (none))
def rows_Value.l1 : Nat → ByteArray → Int → Option (Int × Int × ByteArray × Int)
  | 0, _, _ => none
  | k + 1, x0, x4 => if x4 < (x0.size : Int) then (if 0 ≤ x4 then (if (bt x0 x4) = 45 then (rows_Value.l1 k x0 (wrap64 (x4 + 1))) else (if (bt x0 x4) ≥ 48 then (if (bt x0 x4) ≤ 57 then (rows_Value.l1 k x0 (wrap64 (x4 + 1))) else (if (bt x0 x4) ≥ 97 then (if (bt x0 x4) ≤ 122 then (rows_Value.l1 k x0 (wrap64 (x4 + 1))) else (if x4 ≤ (x0.size : Int) then ((value_Read_s.f (x0.extract 0 (x4 : Int).toNat)).bind fun bt673 => (if bt673.2.2.2 = true then (some (bt673.1, bt673.2.1, bt673.2.2.1, x4)) else (some (0, 0, (⟨#[]⟩ : ByteArray), 0)))) else (none))) else (if x4 ≤ (x0.size : Int) then ((value_Read_s.f (x0.extract 0 (x4 : Int).toNat)).bind fun bt678 => (if bt678.2.2.2 = true then (some (bt678.1, bt678.2.1, bt678.2.2.1, x4)) else (some (0, 0, (⟨#[]⟩ : ByteArray), 0)))) else (none)))) else (if (bt x0 x4) ≥ 97 then (if (bt x0 x4) ≤ 122 then (rows_Value.l1 k x0 (wrap64 (x4 + 1))) else (if x4 ≤ (x0.size : Int) then ((value_Read_s.f (x0.extract 0 (x4 : Int).toNat)).bind fun bt683 => (if bt683.2.2.2 = true then (some (bt683.1, bt683.2.1, bt683.2.2.1, x4)) else (some (0, 0, (⟨#[]⟩ : ByteArray), 0)))) else (none))) else (if x4 ≤ (x0.size : Int) then ((value_Read_s.f (x0.extract 0 (x4 : Int).toNat)).bind fun bt688 => (if bt688.2.2.2 = true then (some (bt688.1, bt688.2.1, bt688.2.2.1, x4)) else (some (0, 0, (⟨#[]⟩ : ByteArray), 0)))) else (none))))) else (none)) else (if 0 ≤ x4 then (if x4 ≤ (x0.size : Int) then ((value_Read_s.f (x0.extract 0 (x4 : Int).toNat)).bind fun bt693 => (if bt693.2.2.2 = true then (some (bt693.1, bt693.2.1, bt693.2.2.1, x4)) else (some (0, 0, (⟨#[]⟩ : ByteArray), 0)))) else (none)) else (none))
end
def rows_Value.f (k : Nat) (a0 : ByteArray) : Option (Int × Int × ByteArray × Int) := (strings_HasPrefix.f a0 (⟨#[39]⟩ : ByteArray)).bind fun t667 => (if t667 = true then (rows_Value.l0 k a0 1) else (rows_Value.l1 k a0 0))
set_option maxHeartbeats 8000000 in
set_option maxRecDepth 100000 in
theorem rows_Value.calls (k : Nat) (a0 : ByteArray) (r1 : Int) (r2 : Int) (r3 : ByteArray) (r4 : Int) (w : World) (hL_ : LaidE w) (h : rows_Value.f k a0 = some (r1, r2, r3, r4)) :
  Calls Tryz.prog 120 #[.string a0] w fun e w' => e = .returned (.tuple #[.agg #[.int .i64 r1, .int .i64 r2, .string r3], .int .i64 r4]) ∧ Below w.heap.size w w' := by
 have hu61 := Tryz.underlying61
 have HLD := aM hL_
 clear hL_
 have HB := aM (Below.refl w.heap.size w)
 have H : ((strings_HasPrefix.f a0 (⟨#[39]⟩ : ByteArray)).bind fun t667 => (if t667 = true then (rows_Value.l0 k a0 1) else (rows_Value.l1 k a0 0))) = some (r1, r2, r3, r4) := h
 clear h
 replace H := Option.bind_eq_some_iff.mp H
 obtain ⟨t667, A20, H⟩ := H
 replace H : (if t667 = true then (rows_Value.l0 k a0 1) else (rows_Value.l1 k a0 0)) = some (r1, r2, r3, r4) := H
 have A2 := aM A20
 clear A20
 by_cases c3 : t667 = true
 ·subst c3
  have H1 : (rows_Value.l0 k a0 1) = some (r1, r2, r3, r4) := by rw [if_pos rfl] at H; exact H
  clear H
  have H := H1
  clear H1
  have H' := aM H
  clear H
  go_enter Tryz.func120, Tryz.ntmps120
  go_wp2_with (first | ((with_reducible refine gate_dst (N := 2) rfl ?_); refine box_event ?hg (N := 2) ?hd (cs := #[.int .i64 0, .int .i64 0, .string (⟨#[]⟩ : ByteArray)]) (t := 61) ?hr ?_; (case hd => rfl); (case hg => rfl); (case hr => first | (go_simp; done) | (go_simp; rfl)); intro gb666 hg w4 hbox hb; have n0_ := aM (below_step (by repeat (first | (with_reducible first | exact HB.out | apply yA | apply yN | apply yD) | exact HB.out)) hb); have n1_ := aM (hbox); have n2_ := aM ((by rw [hg]; exact (below_size (by repeat (first | (with_reducible first | exact HB.out | apply yA | apply yN | apply yD) | exact HB.out))) : w.heap.size ≤ gb666)); have n3_ := n2_; clear HB; have HB := n0_; have BK666 := n1_; have GW666 := n2_; have GE666 := n3_; clear n0_ n1_ n2_ n3_; clear hb hbox hg) | ((with_reducible refine gate_callee (f := 84) rfl ?_); refine goesL_ (some 10) rfl rfl Tryz.func84 (by kernel_rfl) rfl #[.string a0, .string (⟨#[39]⟩ : ByteArray)] rfl (by (try simp only [List.map_toArray, List.map_cons, List.map_nil]); first | done | rfl | (simp only [List.length_drop, List.length_take]; rfl)) ?_; (with_reducible refine (strings_HasPrefix.calls a0 (⟨#[39]⟩ : ByteArray) true _ A2.out).mono ?_); rintro e w' ⟨rfl, ⟨nd, rfl⟩⟩; refine ⟨_, rfl, ?_⟩))
  (try simp only [Act.put, List.setIfInBounds_toArray, List.set_cons_zero, List.set_cons_succ])
  go_loopg [4] k (fun kq v4 w' => ∃ (x4_1 : Int) (x667000_1 : Int) (x667001_1 : Int) (x667002_1 : ByteArray), v4 = .int .i64 x4_1 ∧ Aside0 (rows_Value.l0 kq a0 x4_1 = some (r1, r2, r3, r4)) ∧ Aside0 (kq ≤ k) ∧ Aside0 (w'.heap[gb666]? = some (.cells #[.int .i64 x667000_1, .int .i64 x667001_1, .string x667002_1] 61 (0, 0))) ∧ Aside0 (Below w.heap.size w w'))
  case atStart => exact ⟨(1), (0), (0), ((⟨#[]⟩ : ByteArray)), (by first | rfl | (simp; done) | (simp [*]; done)), H', ⟨Nat.le_refl _⟩, ⟨by (with_reducible repeat (first | refine zN ?_ _ | refine zD ?_ | refine zA ?_ _)); exact BK666.out⟩, ⟨by repeat (first | (with_reducible first | exact HB.out | apply yA | apply yN | apply yD | refine below_set ?_ GE666.out) | exact HB.out)⟩⟩
  case round =>
   clear H'
   try clear c3
   obtain ⟨x4_1, x667000_1, x667001_1, x667002_1, rfl, HA, HK1, BK666, HB⟩ := hrel
   cases gk with
   | zero => exact absurd HA.out (by simp [rows_Value.l0])
   | succ k1 =>
    have H := HA.out
    clear HA
    simp only [rows_Value.l0] at H
    by_cases c5 : x4_1 < (a0.size : Int)
    ·rw [if_pos c5] at H
     have c5b0 : decide (x4_1 < (a0.size : Int)) = true := decide_eq_true c5
     clear c5
     by_cases c6 : 0 ≤ x4_1
     ·rw [if_pos c6] at H
      have c6b0 : decide (0 ≤ x4_1) = true := decide_eq_true c6
      clear c6
      by_cases c8 : (bt a0 x4_1) = 39
      ·rw [if_pos c8] at H
       have c8b0 : ((bt a0 x4_1) == 39) = true := beq_iff_eq.mpr c8
       have c8b1 : ((bt a0 x4_1) != 39) = false := bne_eq_false_iff_eq.mpr c8
       clear c8
       have HC9 := aM H
       clear H
       have p7 : 0 ≤ (x4_1 : Int) := of_decide_eq_true (by first | (with_reducible assumption) | assumption)
       have q7 : x4_1 < (a0.size : Int) := of_decide_eq_true (by first | (with_reducible assumption) | assumption)
       have hx7 := bt_at a0 x4_1
       replace p7 := eq_true p7
       replace q7 := eq_true q7
       go_upto_region 7 with (fail)
       go_cut [32] (fun v32 wc => ∃ (kq : Nat) (x32_8 : Bool), v32 = .bool x32_8 ∧ Aside0 (rows_Value.j1 kq a0 x4_1 x32_8 = some (r1, r2, r3, r4)) ∧ Aside0 (kq ≤ k1) ∧ Aside0 (wc.heap[gb666]? = some (.cells #[.int .i64 x667000_1, .int .i64 x667001_1, .string x667002_1] 61 (0, 0))) ∧ Aside0 (Below w.heap.size w wc))
       case first =>
        have H := HC9.out
        clear HC9
        by_cases c10 : (wrap64 (x4_1 + 1)) < (a0.size : Int)
        ·rw [if_pos c10] at H
         have c10b0 : decide ((wrap64 (x4_1 + 1)) < (a0.size : Int)) = true := decide_eq_true c10
         clear c10
         (first | rw [c10b0] | (simp only [i64_w, i32_w]; rw [c10b0]) | skip)
         obtain ⟨ji11, hji11⟩ : ∃ j_ : Int, (wrap64 (x4_1 + 1)) = j_ := ⟨_, rfl⟩
         replace H : (if 0 ≤ (ji11) then (rows_Value.j1 k1 a0 x4_1 ((bt a0 (ji11)) == 39)) else (none)) = some (r1, r2, r3, r4) := by first | (rw [hji11] at H; exact H) | (simp only [hji11] at H ⊢; exact H)
         (try rw [hji11] at c10b0)
         have hji11w : (IntKind.i64.wrap (x4_1 + 1)) = ji11 := (i64_w _).trans hji11
         by_cases c12 : 0 ≤ (ji11)
         ·rw [if_pos c12] at H
          have c12b0 : decide (0 ≤ (ji11)) = true := decide_eq_true c12
          clear c12
          have H' := aM H
          clear H
          have p13 : 0 ≤ ((ji11) : Int) := of_decide_eq_true (by first | (with_reducible assumption) | assumption)
          have q13 : (ji11) < (a0.size : Int) := of_decide_eq_true (by first | (with_reducible assumption) | assumption)
          have hx13 := bt_at a0 (ji11)
          replace p13 := eq_true p13
          replace q13 := eq_true q13
          go_wp2
          go_meet
          case rel => exact ⟨_, (((bt a0 (ji11)) == 39)), (by first | rfl | (simp; done) | (simp only [← hji11] <;> (first | rfl | simp)) | (simp [*]; done)), (by first | exact H' | (rw [hji11]; exact H') | (simp only [hji11]; exact H')), ⟨by have := HK1.out; first | omega | exact Nat.le_refl _⟩, ⟨by (with_reducible repeat (first | refine zN ?_ _ | refine zD ?_ | refine zA ?_ _)); exact BK666.out⟩, ⟨by repeat (first | (with_reducible first | exact HB.out | apply yA | apply yN | apply yD | refine below_set ?_ GE666.out) | exact HB.out)⟩⟩
         ·rw [if_neg c12] at H
          exact absurd H (by simp)
        ·rw [if_neg c10] at H
         have c10b0 : decide ((wrap64 (x4_1 + 1)) < (a0.size : Int)) = false := decide_eq_false c10
         clear c10
         (first | rw [c10b0] | (simp only [i64_w, i32_w]; rw [c10b0]) | skip)
         have H' := aM H
         clear H
         go_wp2
         go_meet
         case rel => exact ⟨_, (false), (by first | rfl | (simp; done) | (simp [*]; done)), H', ⟨by have := HK1.out; first | omega | exact Nat.le_refl _⟩, ⟨by (with_reducible repeat (first | refine zN ?_ _ | refine zD ?_ | refine zA ?_ _)); exact BK666.out⟩, ⟨by repeat (first | (with_reducible first | exact HB.out | apply yA | apply yN | apply yD | refine below_set ?_ GE666.out) | exact HB.out)⟩⟩
       case rest =>
        clear HC9
        try clear c3
        try clear c5
        try clear c5b0
        try clear c6
        try clear c6b0
        try clear p7
        try clear q7
        try clear hx7
        try clear c8
        try clear c8b0
        try clear c8b1
        try clear p7
        try clear q7
        obtain ⟨kq, x32_8, rfl, HA, HJ8, BK666, HB⟩ := hcut
        cases kq with
        | zero => exact absurd HA.out (by simp [rows_Value.j1])
        | succ kj8 =>
         have H := HA.out
         clear HA
         simp only [rows_Value.j1] at H
         by_cases c14 : x32_8 = true
         ·subst c14
          have H1 : (rows_Value.l0 kj8 a0 (wrap64 (x4_1 + 2))) = some (r1, r2, r3, r4) := by rw [if_pos rfl] at H; exact H
          clear H
          have H := H1
          clear H1
          have H' := aM H
          clear H
          go_wp2
          go_roundg kj8
          case measure => have := HK1.out; have := HJ8.out; omega
          case rel => exact ⟨(wrap64 (x4_1 + 2)), (x667000_1), (x667001_1), (x667002_1), (by first | rfl | (simp; done) | (simp [*]; done)), H', ⟨by have := HK1.out; have := HJ8.out; omega⟩, ⟨by (with_reducible repeat (first | refine zN ?_ _ | refine zD ?_ | refine zA ?_ _)); exact BK666.out⟩, ⟨by repeat (first | (with_reducible first | exact HB.out | apply yA | apply yN | apply yD | refine below_set ?_ GE666.out) | exact HB.out)⟩⟩
         ·replace c14 := Bool.eq_false_iff.mpr c14
          subst c14
          have H1 : (if 0 ≤ (wrap64 (x4_1 + 1)) then (if (wrap64 (x4_1 + 1)) ≤ (a0.size : Int) then ((value_Read_s.f (a0.extract 0 ((wrap64 (x4_1 + 1)) : Int).toNat)).bind fun bt668 => (if bt668.2.2.2 = true then (some (bt668.1, bt668.2.1, bt668.2.2.1, wrap64 (x4_1 + 1))) else (some (0, 0, (⟨#[]⟩ : ByteArray), 0)))) else (none)) else (none)) = some (r1, r2, r3, r4) := by rw [if_neg (show ¬ (false = true) by decide)] at H; exact H
          clear H
          have H := H1
          clear H1
          obtain ⟨ji15, hji15⟩ : ∃ j_ : Int, (wrap64 (x4_1 + 1)) = j_ := ⟨_, rfl⟩
          replace H : (if 0 ≤ (ji15) then (if (ji15) ≤ (a0.size : Int) then ((value_Read_s.f (a0.extract 0 ((ji15) : Int).toNat)).bind fun bt668 => (if bt668.2.2.2 = true then (some (bt668.1, bt668.2.1, bt668.2.2.1, ji15)) else (some (0, 0, (⟨#[]⟩ : ByteArray), 0)))) else (none)) else (none)) = some (r1, r2, r3, r4) := by first | (rw [hji15] at H; exact H) | (simp only [hji15] at H ⊢; exact H)
          have hji15w : (IntKind.i64.wrap (x4_1 + 1)) = ji15 := (i64_w _).trans hji15
          by_cases c16 : 0 ≤ (ji15)
          ·rw [if_pos c16] at H
           have c16b0 := eq_true c16
           have c16b1 : decide (0 ≤ (ji15)) = true := decide_eq_true c16
           clear c16
           by_cases c17 : (ji15) ≤ (a0.size : Int)
           ·rw [if_pos c17] at H
            have c17b0 := eq_true c17
            have c17b1 : decide ((ji15) ≤ (a0.size : Int)) = true := decide_eq_true c17
            clear c17
            replace H := Option.bind_eq_some_iff.mp H
            obtain ⟨⟨t668, t669, t670, t671⟩, A180, H⟩ := H
            replace H : (if t671 = true then (some (t668, t669, t670, ji15)) else (some (0, 0, (⟨#[]⟩ : ByteArray), 0))) = some (r1, r2, r3, r4) := H
            have A18 := aM A180
            clear A180
            by_cases c19 : t671 = true
            ·subst c19
             have H1 : (some (t668, t669, t670, ji15)) = some (r1, r2, r3, r4) := by rw [if_pos rfl] at H; exact H
             clear H
             have H := H1
             clear H1
             simp only [Option.some.injEq, Prod.mk.injEq] at H
             obtain ⟨rfl, rfl, rfl, rfl⟩ := H
             go_wp2_with (first | ((with_reducible refine gate_callee (f := 152) rfl ?_); refine goesL_ (some 41) rfl rfl Tryz.func152 (by kernel_rfl) rfl #[.string (a0.extract 0 ((ji15) : Int).toNat)] rfl (by (try simp only [List.map_toArray, List.map_cons, List.map_nil]); first | done | (simp only [hji15]; rfl) | rfl | (simp only [List.length_drop, List.length_take]; rfl)) ?_; (with_reducible refine (value_Read_s.calls (a0.extract 0 ((ji15) : Int).toNat) t668 t669 t670 true _ ?side1 A18.out).mono ?_); (case side1 => exact LaidE.below HLD.out (by repeat (first | (with_reducible first | exact HB.out | apply yA | apply yN | apply yD | refine below_set ?_ GE666.out) | exact HB.out))); rintro e w20 ⟨rfl, hb⟩; refine ⟨_, rfl, ?_⟩; have n0_ := aM (blk_below (g := gb666) (o := .cells #[.int .i64 x667000_1, .int .i64 x667001_1, .string x667002_1] 61 (0, 0)) (by (with_reducible repeat (first | refine zN ?_ _ | refine zD ?_ | refine zA ?_ _)); exact BK666.out) hb); have n1_ := aM (below_step (by repeat (first | (with_reducible first | exact HB.out | apply yA | apply yN | apply yD | refine below_set ?_ GE666.out) | exact HB.out)) hb); clear BK666; clear HB; have BK666 := n0_; have HB := n1_; clear n0_ n1_; (try clear hb); (try clear hb2); (try clear hk); (try clear hi)) | ((with_reducible refine gate_dst (N := 5) rfl ?_); refine box_event ?hg (N := 5) ?hd (cs := #[.int .i64 0, .int .i64 0, .string (⟨#[]⟩ : ByteArray)]) (t := 61) ?hr ?_; (case hd => rfl); (case hg => rfl); (case hr => first | (go_simp; done) | (go_simp; rfl)); intro gb672 hg w21 hbox hb; have n0_ := aM (blk_below (g := gb666) (o := .cells #[.int .i64 x667000_1, .int .i64 x667001_1, .string x667002_1] 61 (0, 0)) (by (with_reducible repeat (first | refine zN ?_ _ | refine zD ?_ | refine zA ?_ _)); exact BK666.out) hb); have n1_ := aM (below_step (by repeat (first | (with_reducible first | exact HB.out | apply yA | apply yN | apply yD | refine below_set ?_ GE666.out) | exact HB.out)) hb); have n2_ := aM (hbox); have n3_ := aM ((by rw [hg]; exact (below_size (by repeat (first | (with_reducible first | exact HB.out | apply yA | apply yN | apply yD | refine below_set ?_ GE666.out) | exact HB.out))) : w.heap.size ≤ gb672)); have n4_ := n3_; have n5_ := aM ((by rw [hg]; exact Nat.ne_of_lt (blk_lt (g := gb666) (o := .cells #[.int .i64 x667000_1, .int .i64 x667001_1, .string x667002_1] 61 (0, 0)) (by (with_reducible repeat (first | refine zN ?_ _ | refine zD ?_ | refine zA ?_ _)); exact BK666.out)) : gb666 ≠ gb672)); have n6_ := aM n5_.out.symm; clear BK666; clear HB; have BK666 := n0_; have HB := n1_; have BK672 := n2_; have GW672 := n3_; have GE672 := n4_; have NB666_672 := n5_; have NB672_666 := n6_; clear n0_ n1_ n2_ n3_ n4_ n5_ n6_; clear hb hbox hg; have hnb22 := NB672_666.out; have hnc22 := NB666_672.out; have hcz23_0 : w21.cell? ⟨gb672, 0, none⟩ = some (.int .i64 0) := (blk_cell BK672.out 0).trans rfl; have hcz23_1 : w21.cell? ⟨gb672, 1, none⟩ = some (.int .i64 0) := (blk_cell BK672.out 1).trans rfl; have hcz23_2 : w21.cell? ⟨gb672, 2, none⟩ = some (.string (⟨#[]⟩ : ByteArray)) := (blk_cell BK672.out 2).trans rfl; have hfz23_0 := blk_frozen BK672.out 0; have hfz23_1 := blk_frozen BK672.out 1; have hfz23_2 := blk_frozen BK672.out 2; have hcz24_0 : w21.cell? ⟨gb666, 0, none⟩ = some (.int .i64 x667000_1) := (blk_cell BK666.out 0).trans rfl; have hcz24_1 : w21.cell? ⟨gb666, 1, none⟩ = some (.int .i64 x667001_1) := (blk_cell BK666.out 1).trans rfl; have hcz24_2 : w21.cell? ⟨gb666, 2, none⟩ = some (.string x667002_1) := (blk_cell BK666.out 2).trans rfl; have hfz24_0 := blk_frozen BK666.out 0; have hfz24_1 := blk_frozen BK666.out 1; have hfz24_2 := blk_frozen BK666.out 2))
             refine bodyPost_ret (results_ct rfl _ _ gb666 61 #[.int .i64 t668, .int .i64 t669, .string t670] (0, 0) _ rfl (by (with_reducible repeat (first | refine zN ?_ _ | refine zD ?_ | refine zA ?_ _)); refine blk_put (cs := #[.int .i64 t668, .int .i64 t669, .string x667002_1]) ?_ 2 _ rfl; (with_reducible repeat (first | refine zN ?_ _ | refine zD ?_ | refine zA ?_ _)); refine blk_put (cs := #[.int .i64 t668, .int .i64 x667001_1, .string x667002_1]) ?_ 1 _ rfl; (with_reducible repeat (first | refine zN ?_ _ | refine zD ?_ | refine zA ?_ _)); refine blk_put (cs := #[.int .i64 x667000_1, .int .i64 x667001_1, .string x667002_1]) ?_ 0 _ rfl; (with_reducible repeat (first | refine zN ?_ _ | refine zD ?_ | refine zA ?_ _)); refine blk_far ?_ NB666_672.out _; (with_reducible repeat (first | refine zN ?_ _ | refine zD ?_ | refine zA ?_ _)); refine blk_far ?_ NB666_672.out _; (with_reducible repeat (first | refine zN ?_ _ | refine zD ?_ | refine zA ?_ _)); refine blk_far ?_ NB666_672.out _; (with_reducible repeat (first | refine zN ?_ _ | refine zD ?_ | refine zA ?_ _)); exact BK666.out) Tryz.underlying61 rfl (by kernel_rfl)) rfl ?_
             exact ⟨by first | rfl | (simp [errW_none, errW_some] <;> rfl) | (simp only [← hji15]; first | rfl | (simp [errW_none, errW_some] <;> rfl)) | (simp [*, errW_none, errW_some] <;> rfl), by repeat (first | (with_reducible first | exact HB.out | apply yA | apply yN | apply yD | refine below_set ?_ GE666.out | refine below_set ?_ GE672.out) | exact HB.out)⟩
            ·replace c19 := Bool.eq_false_iff.mpr c19
             subst c19
             have H1 : (some (0, 0, (⟨#[]⟩ : ByteArray), 0)) = some (r1, r2, r3, r4) := by rw [if_neg (show ¬ (false = true) by decide)] at H; exact H
             clear H
             have H := H1
             clear H1
             simp only [Option.some.injEq, Prod.mk.injEq] at H
             obtain ⟨rfl, rfl, rfl, rfl⟩ := H
             go_wp2_with (first | ((with_reducible refine gate_callee (f := 152) rfl ?_); refine goesL_ (some 41) rfl rfl Tryz.func152 (by kernel_rfl) rfl #[.string (a0.extract 0 ((ji15) : Int).toNat)] rfl (by (try simp only [List.map_toArray, List.map_cons, List.map_nil]); first | done | (simp only [hji15]; rfl) | rfl | (simp only [List.length_drop, List.length_take]; rfl)) ?_; (with_reducible refine (value_Read_s.calls (a0.extract 0 ((ji15) : Int).toNat) t668 t669 t670 false _ ?side1 A18.out).mono ?_); (case side1 => exact LaidE.below HLD.out (by repeat (first | (with_reducible first | exact HB.out | apply yA | apply yN | apply yD | refine below_set ?_ GE666.out) | exact HB.out))); rintro e w25 ⟨rfl, hb⟩; refine ⟨_, rfl, ?_⟩; have n0_ := aM (blk_below (g := gb666) (o := .cells #[.int .i64 x667000_1, .int .i64 x667001_1, .string x667002_1] 61 (0, 0)) (by (with_reducible repeat (first | refine zN ?_ _ | refine zD ?_ | refine zA ?_ _)); exact BK666.out) hb); have n1_ := aM (below_step (by repeat (first | (with_reducible first | exact HB.out | apply yA | apply yN | apply yD | refine below_set ?_ GE666.out) | exact HB.out)) hb); clear BK666; clear HB; have BK666 := n0_; have HB := n1_; clear n0_ n1_; (try clear hb); (try clear hb2); (try clear hk); (try clear hi)) | ((with_reducible refine gate_dst (N := 5) rfl ?_); refine box_event ?hg (N := 5) ?hd (cs := #[.int .i64 0, .int .i64 0, .string (⟨#[]⟩ : ByteArray)]) (t := 61) ?hr ?_; (case hd => rfl); (case hg => rfl); (case hr => first | (go_simp; done) | (go_simp; rfl)); intro gb672 hg w26 hbox hb; have n0_ := aM (blk_below (g := gb666) (o := .cells #[.int .i64 x667000_1, .int .i64 x667001_1, .string x667002_1] 61 (0, 0)) (by (with_reducible repeat (first | refine zN ?_ _ | refine zD ?_ | refine zA ?_ _)); exact BK666.out) hb); have n1_ := aM (below_step (by repeat (first | (with_reducible first | exact HB.out | apply yA | apply yN | apply yD | refine below_set ?_ GE666.out) | exact HB.out)) hb); have n2_ := aM (hbox); have n3_ := aM ((by rw [hg]; exact (below_size (by repeat (first | (with_reducible first | exact HB.out | apply yA | apply yN | apply yD | refine below_set ?_ GE666.out) | exact HB.out))) : w.heap.size ≤ gb672)); have n4_ := n3_; have n5_ := aM ((by rw [hg]; exact Nat.ne_of_lt (blk_lt (g := gb666) (o := .cells #[.int .i64 x667000_1, .int .i64 x667001_1, .string x667002_1] 61 (0, 0)) (by (with_reducible repeat (first | refine zN ?_ _ | refine zD ?_ | refine zA ?_ _)); exact BK666.out)) : gb666 ≠ gb672)); have n6_ := aM n5_.out.symm; clear BK666; clear HB; have BK666 := n0_; have HB := n1_; have BK672 := n2_; have GW672 := n3_; have GE672 := n4_; have NB666_672 := n5_; have NB672_666 := n6_; clear n0_ n1_ n2_ n3_ n4_ n5_ n6_; clear hb hbox hg; have hnb27 := NB672_666.out; have hnc27 := NB666_672.out; have hcz28_0 : w26.cell? ⟨gb672, 0, none⟩ = some (.int .i64 0) := (blk_cell BK672.out 0).trans rfl; have hcz28_1 : w26.cell? ⟨gb672, 1, none⟩ = some (.int .i64 0) := (blk_cell BK672.out 1).trans rfl; have hcz28_2 : w26.cell? ⟨gb672, 2, none⟩ = some (.string (⟨#[]⟩ : ByteArray)) := (blk_cell BK672.out 2).trans rfl; have hfz28_0 := blk_frozen BK672.out 0; have hfz28_1 := blk_frozen BK672.out 1; have hfz28_2 := blk_frozen BK672.out 2; have hcz29_0 : w26.cell? ⟨gb666, 0, none⟩ = some (.int .i64 x667000_1) := (blk_cell BK666.out 0).trans rfl; have hcz29_1 : w26.cell? ⟨gb666, 1, none⟩ = some (.int .i64 x667001_1) := (blk_cell BK666.out 1).trans rfl; have hcz29_2 : w26.cell? ⟨gb666, 2, none⟩ = some (.string x667002_1) := (blk_cell BK666.out 2).trans rfl; have hfz29_0 := blk_frozen BK666.out 0; have hfz29_1 := blk_frozen BK666.out 1; have hfz29_2 := blk_frozen BK666.out 2))
             refine bodyPost_ret (results_ct rfl _ _ gb666 61 #[.int .i64 0, .int .i64 0, .string (⟨#[]⟩ : ByteArray)] (0, 0) _ rfl (by (with_reducible repeat (first | refine zN ?_ _ | refine zD ?_ | refine zA ?_ _)); refine blk_put (cs := #[.int .i64 0, .int .i64 0, .string x667002_1]) ?_ 2 _ rfl; (with_reducible repeat (first | refine zN ?_ _ | refine zD ?_ | refine zA ?_ _)); refine blk_put (cs := #[.int .i64 0, .int .i64 x667001_1, .string x667002_1]) ?_ 1 _ rfl; (with_reducible repeat (first | refine zN ?_ _ | refine zD ?_ | refine zA ?_ _)); refine blk_put (cs := #[.int .i64 x667000_1, .int .i64 x667001_1, .string x667002_1]) ?_ 0 _ rfl; (with_reducible repeat (first | refine zN ?_ _ | refine zD ?_ | refine zA ?_ _)); refine blk_far ?_ NB666_672.out _; (with_reducible repeat (first | refine zN ?_ _ | refine zD ?_ | refine zA ?_ _)); refine blk_far ?_ NB666_672.out _; (with_reducible repeat (first | refine zN ?_ _ | refine zD ?_ | refine zA ?_ _)); refine blk_far ?_ NB666_672.out _; (with_reducible repeat (first | refine zN ?_ _ | refine zD ?_ | refine zA ?_ _)); exact BK666.out) Tryz.underlying61 rfl (by kernel_rfl)) rfl ?_
             exact ⟨by first | rfl | (simp [errW_none, errW_some] <;> rfl) | (simp only [← hji15]; first | rfl | (simp [errW_none, errW_some] <;> rfl)) | (simp [*, errW_none, errW_some] <;> rfl), by repeat (first | (with_reducible first | exact HB.out | apply yA | apply yN | apply yD | refine below_set ?_ GE666.out | refine below_set ?_ GE672.out) | exact HB.out)⟩
           ·rw [if_neg c17] at H
            exact absurd H (by simp)
          ·rw [if_neg c16] at H
           exact absurd H (by simp)
      ·rw [if_neg c8] at H
       have c8b0 : ((bt a0 x4_1) == 39) = false := beq_eq_false_iff_ne.mpr c8
       have c8b1 : ((bt a0 x4_1) != 39) = true := bne_iff_ne.mpr c8
       have H' := aM H
       clear H
       have p7 : 0 ≤ (x4_1 : Int) := of_decide_eq_true (by first | (with_reducible assumption) | assumption)
       have q7 : x4_1 < (a0.size : Int) := of_decide_eq_true (by first | (with_reducible assumption) | assumption)
       have hx7 := bt_at a0 x4_1
       replace p7 := eq_true p7
       replace q7 := eq_true q7
       go_wp2
       go_roundg k1
       case measure => have := HK1.out; omega
       case rel => exact ⟨(wrap64 (x4_1 + 1)), (x667000_1), (x667001_1), (x667002_1), (by first | rfl | (simp; done) | (simp [*]; done)), H', ⟨by have := HK1.out; omega⟩, ⟨by (with_reducible repeat (first | refine zN ?_ _ | refine zD ?_ | refine zA ?_ _)); exact BK666.out⟩, ⟨by repeat (first | (with_reducible first | exact HB.out | apply yA | apply yN | apply yD | refine below_set ?_ GE666.out) | exact HB.out)⟩⟩
     ·rw [if_neg c6] at H
      exact absurd H (by simp)
    ·rw [if_neg c5] at H
     have c5b0 : decide (x4_1 < (a0.size : Int)) = false := decide_eq_false c5
     clear c5
     simp only [Option.some.injEq, Prod.mk.injEq] at H
     obtain ⟨rfl, rfl, rfl, rfl⟩ := H
     have hcz30_0 : wr.cell? ⟨gb666, 0, none⟩ = some (.int .i64 x667000_1) := (blk_cell BK666.out 0).trans rfl
     have hcz30_1 : wr.cell? ⟨gb666, 1, none⟩ = some (.int .i64 x667001_1) := (blk_cell BK666.out 1).trans rfl
     have hcz30_2 : wr.cell? ⟨gb666, 2, none⟩ = some (.string x667002_1) := (blk_cell BK666.out 2).trans rfl
     have hfz30_0 := blk_frozen BK666.out 0
     have hfz30_1 := blk_frozen BK666.out 1
     have hfz30_2 := blk_frozen BK666.out 2
     go_wp2
     refine bodyPost_ret (results_ct rfl _ _ gb666 61 #[.int .i64 0, .int .i64 0, .string (⟨#[]⟩ : ByteArray)] (0, 0) _ rfl (by (with_reducible repeat (first | refine zN ?_ _ | refine zD ?_ | refine zA ?_ _)); refine blk_put (cs := #[.int .i64 0, .int .i64 0, .string x667002_1]) ?_ 2 _ rfl; (with_reducible repeat (first | refine zN ?_ _ | refine zD ?_ | refine zA ?_ _)); refine blk_put (cs := #[.int .i64 0, .int .i64 x667001_1, .string x667002_1]) ?_ 1 _ rfl; (with_reducible repeat (first | refine zN ?_ _ | refine zD ?_ | refine zA ?_ _)); refine blk_put (cs := #[.int .i64 x667000_1, .int .i64 x667001_1, .string x667002_1]) ?_ 0 _ rfl; (with_reducible repeat (first | refine zN ?_ _ | refine zD ?_ | refine zA ?_ _)); exact BK666.out) Tryz.underlying61 rfl (by kernel_rfl)) rfl ?_
     exact ⟨by first | rfl | (simp [errW_none, errW_some] <;> rfl) | (simp [*, errW_none, errW_some] <;> rfl), by repeat (first | (with_reducible first | exact HB.out | apply yA | apply yN | apply yD | refine below_set ?_ GE666.out) | exact HB.out)⟩
 ·replace c3 := Bool.eq_false_iff.mpr c3
  subst c3
  have H1 : (rows_Value.l1 k a0 0) = some (r1, r2, r3, r4) := by rw [if_neg (show ¬ (false = true) by decide)] at H; exact H
  clear H
  have H := H1
  clear H1
  have H' := aM H
  clear H
  go_enter Tryz.func120, Tryz.ntmps120
  go_upto_block 2 with (first | ((with_reducible refine gate_dst (N := 2) rfl ?_); refine box_event ?hg (N := 2) ?hd (cs := #[.int .i64 0, .int .i64 0, .string (⟨#[]⟩ : ByteArray)]) (t := 61) ?hr ?_; (case hd => rfl); (case hg => rfl); (case hr => first | (go_simp; done) | (go_simp; rfl)); intro gb666 hg w31 hbox hb; have n0_ := aM (below_step (by repeat (first | (with_reducible first | exact HB.out | apply yA | apply yN | apply yD) | exact HB.out)) hb); have n1_ := aM (hbox); have n2_ := aM ((by rw [hg]; exact (below_size (by repeat (first | (with_reducible first | exact HB.out | apply yA | apply yN | apply yD) | exact HB.out))) : w.heap.size ≤ gb666)); have n3_ := n2_; clear HB; have HB := n0_; have BK666 := n1_; have GW666 := n2_; have GE666 := n3_; clear n0_ n1_ n2_ n3_; clear hb hbox hg) | ((with_reducible refine gate_callee (f := 84) rfl ?_); refine goesL_ (some 10) rfl rfl Tryz.func84 (by kernel_rfl) rfl #[.string a0, .string (⟨#[39]⟩ : ByteArray)] rfl (by (try simp only [List.map_toArray, List.map_cons, List.map_nil]); first | done | rfl | (simp only [List.length_drop, List.length_take]; rfl)) ?_; (with_reducible refine (strings_HasPrefix.calls a0 (⟨#[39]⟩ : ByteArray) false _ A2.out).mono ?_); rintro e w' ⟨rfl, ⟨nd, rfl⟩⟩; refine ⟨_, rfl, ?_⟩))
  (try simp only [Act.put, List.setIfInBounds_toArray, List.set_cons_zero, List.set_cons_succ])
  go_cut [4] (fun v4 wc => ∃ (x4_1 : Int), v4 = .int .i64 x4_1 ∧ Aside0 ((if x4_1 ≤ (a0.size : Int) then ((value_Read_s.f (a0.extract 0 (x4_1 : Int).toNat)).bind fun bt673 => (if bt673.2.2.2 = true then (some (bt673.1, bt673.2.1, bt673.2.2.1, x4_1)) else (some (0, 0, (⟨#[]⟩ : ByteArray), 0)))) else (none)) = some (r1, r2, r3, r4)) ∧ Aside0 (0 ≤ x4_1) ∧ Aside0 (wc.heap[gb666]? = some (.cells #[.int .i64 0, .int .i64 0, .string (⟨#[]⟩ : ByteArray)] 61 (0, 0))) ∧ Aside0 (Below w.heap.size w wc))
  case first =>
   go_wp2_with fail
   go_loopg [4] k (fun kq v4 w' => ∃ (x4_1 : Int), v4 = .int .i64 x4_1 ∧ Aside0 (rows_Value.l1 kq a0 x4_1 = some (r1, r2, r3, r4)) ∧ Aside0 (kq ≤ k) ∧ Aside0 (w'.heap[gb666]? = some (.cells #[.int .i64 0, .int .i64 0, .string (⟨#[]⟩ : ByteArray)] 61 (0, 0))) ∧ Aside0 (Below w.heap.size w w'))
   case atStart => exact ⟨(0), (by first | rfl | (simp; done) | (simp [*]; done)), H', ⟨Nat.le_refl _⟩, ⟨by (with_reducible repeat (first | refine zN ?_ _ | refine zD ?_ | refine zA ?_ _)); exact BK666.out⟩, ⟨by repeat (first | (with_reducible first | exact HB.out | apply yA | apply yN | apply yD | refine below_set ?_ GE666.out) | exact HB.out)⟩⟩
   case round =>
    clear H'
    try clear c3
    obtain ⟨x4_1, rfl, HA, HK1, BK666, HB⟩ := hrel
    cases gk with
    | zero => exact absurd HA.out (by simp [rows_Value.l1])
    | succ k1 =>
     have H := HA.out
     clear HA
     simp only [rows_Value.l1] at H
     by_cases c32 : x4_1 < (a0.size : Int)
     ·rw [if_pos c32] at H
      have c32b0 : decide (x4_1 < (a0.size : Int)) = true := decide_eq_true c32
      clear c32
      by_cases c33 : 0 ≤ x4_1
      ·rw [if_pos c33] at H
       have c33b0 : decide (0 ≤ x4_1) = true := decide_eq_true c33
       clear c33
       by_cases c35 : (bt a0 x4_1) = 45
       ·rw [if_pos c35] at H
        have c35b0 : ((bt a0 x4_1) == 45) = true := beq_iff_eq.mpr c35
        have c35b1 : ((bt a0 x4_1) != 45) = false := bne_eq_false_iff_eq.mpr c35
        clear c35
        have H' := aM H
        clear H
        have p34 : 0 ≤ (x4_1 : Int) := of_decide_eq_true (by first | (with_reducible assumption) | assumption)
        have q34 : x4_1 < (a0.size : Int) := of_decide_eq_true (by first | (with_reducible assumption) | assumption)
        have hx34 := bt_at a0 x4_1
        replace p34 := eq_true p34
        replace q34 := eq_true q34
        go_wp2
        go_roundg k1
        case measure => have := HK1.out; omega
        case rel => exact ⟨(wrap64 (x4_1 + 1)), (by first | rfl | (simp; done) | (simp [*]; done)), H', ⟨by have := HK1.out; omega⟩, ⟨by (with_reducible repeat (first | refine zN ?_ _ | refine zD ?_ | refine zA ?_ _)); exact BK666.out⟩, ⟨by repeat (first | (with_reducible first | exact HB.out | apply yA | apply yN | apply yD | refine below_set ?_ GE666.out) | exact HB.out)⟩⟩
       ·rw [if_neg c35] at H
        have c35b0 : ((bt a0 x4_1) == 45) = false := beq_eq_false_iff_ne.mpr c35
        have c35b1 : ((bt a0 x4_1) != 45) = true := bne_iff_ne.mpr c35
        by_cases c37 : (bt a0 x4_1) ≥ 48
        ·rw [if_pos c37] at H
         have c37b0 : decide (48 ≤ (bt a0 x4_1)) = true := decide_eq_true c37
         clear c37
         by_cases c39 : (bt a0 x4_1) ≤ 57
         ·rw [if_pos c39] at H
          have c39b0 : decide ((bt a0 x4_1) ≤ 57) = true := decide_eq_true c39
          clear c39
          have H' := aM H
          clear H
          have p34 : 0 ≤ (x4_1 : Int) := of_decide_eq_true (by first | (with_reducible assumption) | assumption)
          have q34 : x4_1 < (a0.size : Int) := of_decide_eq_true (by first | (with_reducible assumption) | assumption)
          have hx34 := bt_at a0 x4_1
          replace p34 := eq_true p34
          replace q34 := eq_true q34
          go_wp2
          go_roundg k1
          case measure => have := HK1.out; omega
          case rel => exact ⟨(wrap64 (x4_1 + 1)), (by first | rfl | (simp; done) | (simp [*]; done)), H', ⟨by have := HK1.out; omega⟩, ⟨by (with_reducible repeat (first | refine zN ?_ _ | refine zD ?_ | refine zA ?_ _)); exact BK666.out⟩, ⟨by repeat (first | (with_reducible first | exact HB.out | apply yA | apply yN | apply yD | refine below_set ?_ GE666.out) | exact HB.out)⟩⟩
         ·rw [if_neg c39] at H
          have c39b0 : decide ((bt a0 x4_1) ≤ 57) = false := decide_eq_false c39
          clear c39
          by_cases c41 : (bt a0 x4_1) ≥ 97
          ·rw [if_pos c41] at H
           have c41b0 : decide (97 ≤ (bt a0 x4_1)) = true := decide_eq_true c41
           clear c41
           by_cases c43 : (bt a0 x4_1) ≤ 122
           ·rw [if_pos c43] at H
            have c43b0 : decide ((bt a0 x4_1) ≤ 122) = true := decide_eq_true c43
            clear c43
            have H' := aM H
            clear H
            have p34 : 0 ≤ (x4_1 : Int) := of_decide_eq_true (by first | (with_reducible assumption) | assumption)
            have q34 : x4_1 < (a0.size : Int) := of_decide_eq_true (by first | (with_reducible assumption) | assumption)
            have hx34 := bt_at a0 x4_1
            replace p34 := eq_true p34
            replace q34 := eq_true q34
            go_wp2
            go_roundg k1
            case measure => have := HK1.out; omega
            case rel => exact ⟨(wrap64 (x4_1 + 1)), (by first | rfl | (simp; done) | (simp [*]; done)), H', ⟨by have := HK1.out; omega⟩, ⟨by (with_reducible repeat (first | refine zN ?_ _ | refine zD ?_ | refine zA ?_ _)); exact BK666.out⟩, ⟨by repeat (first | (with_reducible first | exact HB.out | apply yA | apply yN | apply yD | refine below_set ?_ GE666.out) | exact HB.out)⟩⟩
           ·rw [if_neg c43] at H
            have c43b0 : decide ((bt a0 x4_1) ≤ 122) = false := decide_eq_false c43
            clear c43
            have c44b0 := eq_true (of_decide_eq_true (by first | (with_reducible assumption) | assumption) : 0 ≤ x4_1)
            have H' := aM H
            clear H
            have p34 : 0 ≤ (x4_1 : Int) := of_decide_eq_true (by first | (with_reducible assumption) | assumption)
            have q34 : x4_1 < (a0.size : Int) := of_decide_eq_true (by first | (with_reducible assumption) | assumption)
            have hx34 := bt_at a0 x4_1
            replace p34 := eq_true p34
            replace q34 := eq_true q34
            go_wp2
            go_meet
            case rel => exact ⟨x4_1, (by first | rfl | (simp; done) | (simp [*]; done)), H', ⟨of_decide_eq_true (by assumption)⟩, ⟨by (with_reducible repeat (first | refine zN ?_ _ | refine zD ?_ | refine zA ?_ _)); exact BK666.out⟩, ⟨by repeat (first | (with_reducible first | exact HB.out | apply yA | apply yN | apply yD | refine below_set ?_ GE666.out) | exact HB.out)⟩⟩
          ·rw [if_neg c41] at H
           have c41b0 : decide (97 ≤ (bt a0 x4_1)) = false := decide_eq_false c41
           clear c41
           have c58b0 := eq_true (of_decide_eq_true (by first | (with_reducible assumption) | assumption) : 0 ≤ x4_1)
           have H' := aM H
           clear H
           have p34 : 0 ≤ (x4_1 : Int) := of_decide_eq_true (by first | (with_reducible assumption) | assumption)
           have q34 : x4_1 < (a0.size : Int) := of_decide_eq_true (by first | (with_reducible assumption) | assumption)
           have hx34 := bt_at a0 x4_1
           replace p34 := eq_true p34
           replace q34 := eq_true q34
           go_wp2
           go_meet
           case rel => exact ⟨x4_1, (by first | rfl | (simp; done) | (simp [*]; done)), H', ⟨of_decide_eq_true (by assumption)⟩, ⟨by (with_reducible repeat (first | refine zN ?_ _ | refine zD ?_ | refine zA ?_ _)); exact BK666.out⟩, ⟨by repeat (first | (with_reducible first | exact HB.out | apply yA | apply yN | apply yD | refine below_set ?_ GE666.out) | exact HB.out)⟩⟩
        ·rw [if_neg c37] at H
         have c37b0 : decide (48 ≤ (bt a0 x4_1)) = false := decide_eq_false c37
         clear c37
         by_cases c73 : (bt a0 x4_1) ≥ 97
         ·rw [if_pos c73] at H
          have c73b0 : decide (97 ≤ (bt a0 x4_1)) = true := decide_eq_true c73
          clear c73
          by_cases c75 : (bt a0 x4_1) ≤ 122
          ·rw [if_pos c75] at H
           have c75b0 : decide ((bt a0 x4_1) ≤ 122) = true := decide_eq_true c75
           clear c75
           have H' := aM H
           clear H
           have p34 : 0 ≤ (x4_1 : Int) := of_decide_eq_true (by first | (with_reducible assumption) | assumption)
           have q34 : x4_1 < (a0.size : Int) := of_decide_eq_true (by first | (with_reducible assumption) | assumption)
           have hx34 := bt_at a0 x4_1
           replace p34 := eq_true p34
           replace q34 := eq_true q34
           go_wp2
           go_roundg k1
           case measure => have := HK1.out; omega
           case rel => exact ⟨(wrap64 (x4_1 + 1)), (by first | rfl | (simp; done) | (simp [*]; done)), H', ⟨by have := HK1.out; omega⟩, ⟨by (with_reducible repeat (first | refine zN ?_ _ | refine zD ?_ | refine zA ?_ _)); exact BK666.out⟩, ⟨by repeat (first | (with_reducible first | exact HB.out | apply yA | apply yN | apply yD | refine below_set ?_ GE666.out) | exact HB.out)⟩⟩
          ·rw [if_neg c75] at H
           have c75b0 : decide ((bt a0 x4_1) ≤ 122) = false := decide_eq_false c75
           clear c75
           have c76b0 := eq_true (of_decide_eq_true (by first | (with_reducible assumption) | assumption) : 0 ≤ x4_1)
           have H' := aM H
           clear H
           have p34 : 0 ≤ (x4_1 : Int) := of_decide_eq_true (by first | (with_reducible assumption) | assumption)
           have q34 : x4_1 < (a0.size : Int) := of_decide_eq_true (by first | (with_reducible assumption) | assumption)
           have hx34 := bt_at a0 x4_1
           replace p34 := eq_true p34
           replace q34 := eq_true q34
           go_wp2
           go_meet
           case rel => exact ⟨x4_1, (by first | rfl | (simp; done) | (simp [*]; done)), H', ⟨of_decide_eq_true (by assumption)⟩, ⟨by (with_reducible repeat (first | refine zN ?_ _ | refine zD ?_ | refine zA ?_ _)); exact BK666.out⟩, ⟨by repeat (first | (with_reducible first | exact HB.out | apply yA | apply yN | apply yD | refine below_set ?_ GE666.out) | exact HB.out)⟩⟩
         ·rw [if_neg c73] at H
          have c73b0 : decide (97 ≤ (bt a0 x4_1)) = false := decide_eq_false c73
          clear c73
          have c90b0 := eq_true (of_decide_eq_true (by first | (with_reducible assumption) | assumption) : 0 ≤ x4_1)
          have H' := aM H
          clear H
          have p34 : 0 ≤ (x4_1 : Int) := of_decide_eq_true (by first | (with_reducible assumption) | assumption)
          have q34 : x4_1 < (a0.size : Int) := of_decide_eq_true (by first | (with_reducible assumption) | assumption)
          have hx34 := bt_at a0 x4_1
          replace p34 := eq_true p34
          replace q34 := eq_true q34
          go_wp2
          go_meet
          case rel => exact ⟨x4_1, (by first | rfl | (simp; done) | (simp [*]; done)), H', ⟨of_decide_eq_true (by assumption)⟩, ⟨by (with_reducible repeat (first | refine zN ?_ _ | refine zD ?_ | refine zA ?_ _)); exact BK666.out⟩, ⟨by repeat (first | (with_reducible first | exact HB.out | apply yA | apply yN | apply yD | refine below_set ?_ GE666.out) | exact HB.out)⟩⟩
      ·rw [if_neg c33] at H
       exact absurd H (by simp)
     ·rw [if_neg c32] at H
      have c32b0 : decide (x4_1 < (a0.size : Int)) = false := decide_eq_false c32
      clear c32
      by_cases c104 : 0 ≤ x4_1
      ·rw [if_pos c104] at H
       have c104b0 := eq_true c104
       have c104b1 : decide (0 ≤ x4_1) = true := decide_eq_true c104
       clear c104
       have H' := aM H
       clear H
       go_wp2
       go_meet
       case rel => exact ⟨x4_1, (by first | rfl | (simp; done) | (simp [*]; done)), H', ⟨of_decide_eq_true (by assumption)⟩, ⟨by (with_reducible repeat (first | refine zN ?_ _ | refine zD ?_ | refine zA ?_ _)); exact BK666.out⟩, ⟨by repeat (first | (with_reducible first | exact HB.out | apply yA | apply yN | apply yD | refine below_set ?_ GE666.out) | exact HB.out)⟩⟩
      ·rw [if_neg c104] at H
       exact absurd H (by simp)
  case rest =>
   clear H'
   obtain ⟨x4_1, rfl, HA, HX0, BK666, HB⟩ := hcut
   have H := HA.out
   clear HA
   have c104b0 := eq_true HX0.out
   have c104b1 : decide (0 ≤ x4_1) = true := decide_eq_true HX0.out
   by_cases c105 : x4_1 ≤ (a0.size : Int)
   ·rw [if_pos c105] at H
    have c105b0 := eq_true c105
    have c105b1 : decide (x4_1 ≤ (a0.size : Int)) = true := decide_eq_true c105
    clear c105
    replace H := Option.bind_eq_some_iff.mp H
    obtain ⟨⟨t693, t694, t695, t696⟩, A1060, H⟩ := H
    replace H : (if t696 = true then (some (t693, t694, t695, x4_1)) else (some (0, 0, (⟨#[]⟩ : ByteArray), 0))) = some (r1, r2, r3, r4) := H
    have A106 := aM A1060
    clear A1060
    by_cases c107 : t696 = true
    ·subst c107
     have H1 : (some (t693, t694, t695, x4_1)) = some (r1, r2, r3, r4) := by rw [if_pos rfl] at H; exact H
     clear H
     have H := H1
     clear H1
     simp only [Option.some.injEq, Prod.mk.injEq] at H
     obtain ⟨rfl, rfl, rfl, rfl⟩ := H
     go_wp2_with (first | ((with_reducible refine gate_callee (f := 152) rfl ?_); refine goesL_ (some 90) rfl rfl Tryz.func152 (by kernel_rfl) rfl #[.string (a0.extract 0 (x4_1 : Int).toNat)] rfl (by (try simp only [List.map_toArray, List.map_cons, List.map_nil]); first | done | rfl | (simp only [List.length_drop, List.length_take]; rfl)) ?_; (with_reducible refine (value_Read_s.calls (a0.extract 0 (x4_1 : Int).toNat) t693 t694 t695 true _ ?side1 A106.out).mono ?_); (case side1 => exact LaidE.below HLD.out (by repeat (first | (with_reducible first | exact HB.out | apply yA | apply yN | apply yD | refine below_set ?_ GE666.out) | exact HB.out))); rintro e w108 ⟨rfl, hb⟩; refine ⟨_, rfl, ?_⟩; have n0_ := aM (blk_below (g := gb666) (o := .cells #[.int .i64 0, .int .i64 0, .string (⟨#[]⟩ : ByteArray)] 61 (0, 0)) (by (with_reducible repeat (first | refine zN ?_ _ | refine zD ?_ | refine zA ?_ _)); exact BK666.out) hb); have n1_ := aM (below_step (by repeat (first | (with_reducible first | exact HB.out | apply yA | apply yN | apply yD | refine below_set ?_ GE666.out) | exact HB.out)) hb); clear BK666; clear HB; have BK666 := n0_; have HB := n1_; clear n0_ n1_; (try clear hb); (try clear hb2); (try clear hk); (try clear hi)) | ((with_reducible refine gate_dst (N := 7) rfl ?_); refine box_event ?hg (N := 7) ?hd (cs := #[.int .i64 0, .int .i64 0, .string (⟨#[]⟩ : ByteArray)]) (t := 61) ?hr ?_; (case hd => rfl); (case hg => rfl); (case hr => first | (go_simp; done) | (go_simp; rfl)); intro gb697 hg w109 hbox hb; have n0_ := aM (blk_below (g := gb666) (o := .cells #[.int .i64 0, .int .i64 0, .string (⟨#[]⟩ : ByteArray)] 61 (0, 0)) (by (with_reducible repeat (first | refine zN ?_ _ | refine zD ?_ | refine zA ?_ _)); exact BK666.out) hb); have n1_ := aM (below_step (by repeat (first | (with_reducible first | exact HB.out | apply yA | apply yN | apply yD | refine below_set ?_ GE666.out) | exact HB.out)) hb); have n2_ := aM (hbox); have n3_ := aM ((by rw [hg]; exact (below_size (by repeat (first | (with_reducible first | exact HB.out | apply yA | apply yN | apply yD | refine below_set ?_ GE666.out) | exact HB.out))) : w.heap.size ≤ gb697)); have n4_ := n3_; have n5_ := aM ((by rw [hg]; exact Nat.ne_of_lt (blk_lt (g := gb666) (o := .cells #[.int .i64 0, .int .i64 0, .string (⟨#[]⟩ : ByteArray)] 61 (0, 0)) (by (with_reducible repeat (first | refine zN ?_ _ | refine zD ?_ | refine zA ?_ _)); exact BK666.out)) : gb666 ≠ gb697)); have n6_ := aM n5_.out.symm; clear BK666; clear HB; have BK666 := n0_; have HB := n1_; have BK697 := n2_; have GW697 := n3_; have GE697 := n4_; have NB666_697 := n5_; have NB697_666 := n6_; clear n0_ n1_ n2_ n3_ n4_ n5_ n6_; clear hb hbox hg; have hnb110 := NB697_666.out; have hnc110 := NB666_697.out; have hcz111_0 : w109.cell? ⟨gb697, 0, none⟩ = some (.int .i64 0) := (blk_cell BK697.out 0).trans rfl; have hcz111_1 : w109.cell? ⟨gb697, 1, none⟩ = some (.int .i64 0) := (blk_cell BK697.out 1).trans rfl; have hcz111_2 : w109.cell? ⟨gb697, 2, none⟩ = some (.string (⟨#[]⟩ : ByteArray)) := (blk_cell BK697.out 2).trans rfl; have hfz111_0 := blk_frozen BK697.out 0; have hfz111_1 := blk_frozen BK697.out 1; have hfz111_2 := blk_frozen BK697.out 2; have hcz112_0 : w109.cell? ⟨gb666, 0, none⟩ = some (.int .i64 0) := (blk_cell BK666.out 0).trans rfl; have hcz112_1 : w109.cell? ⟨gb666, 1, none⟩ = some (.int .i64 0) := (blk_cell BK666.out 1).trans rfl; have hcz112_2 : w109.cell? ⟨gb666, 2, none⟩ = some (.string (⟨#[]⟩ : ByteArray)) := (blk_cell BK666.out 2).trans rfl; have hfz112_0 := blk_frozen BK666.out 0; have hfz112_1 := blk_frozen BK666.out 1; have hfz112_2 := blk_frozen BK666.out 2))
     refine bodyPost_ret (results_ct rfl _ _ gb666 61 #[.int .i64 t693, .int .i64 t694, .string t695] (0, 0) _ rfl (by (with_reducible repeat (first | refine zN ?_ _ | refine zD ?_ | refine zA ?_ _)); refine blk_put (cs := #[.int .i64 t693, .int .i64 t694, .string (⟨#[]⟩ : ByteArray)]) ?_ 2 _ rfl; (with_reducible repeat (first | refine zN ?_ _ | refine zD ?_ | refine zA ?_ _)); refine blk_put (cs := #[.int .i64 t693, .int .i64 0, .string (⟨#[]⟩ : ByteArray)]) ?_ 1 _ rfl; (with_reducible repeat (first | refine zN ?_ _ | refine zD ?_ | refine zA ?_ _)); refine blk_put (cs := #[.int .i64 0, .int .i64 0, .string (⟨#[]⟩ : ByteArray)]) ?_ 0 _ rfl; (with_reducible repeat (first | refine zN ?_ _ | refine zD ?_ | refine zA ?_ _)); refine blk_far ?_ NB666_697.out _; (with_reducible repeat (first | refine zN ?_ _ | refine zD ?_ | refine zA ?_ _)); refine blk_far ?_ NB666_697.out _; (with_reducible repeat (first | refine zN ?_ _ | refine zD ?_ | refine zA ?_ _)); refine blk_far ?_ NB666_697.out _; (with_reducible repeat (first | refine zN ?_ _ | refine zD ?_ | refine zA ?_ _)); exact BK666.out) Tryz.underlying61 rfl (by kernel_rfl)) rfl ?_
     exact ⟨by first | rfl | (simp [errW_none, errW_some] <;> rfl) | (simp [*, errW_none, errW_some] <;> rfl), by repeat (first | (with_reducible first | exact HB.out | apply yA | apply yN | apply yD | refine below_set ?_ GE666.out | refine below_set ?_ GE697.out) | exact HB.out)⟩
    ·replace c107 := Bool.eq_false_iff.mpr c107
     subst c107
     have H1 : (some (0, 0, (⟨#[]⟩ : ByteArray), 0)) = some (r1, r2, r3, r4) := by rw [if_neg (show ¬ (false = true) by decide)] at H; exact H
     clear H
     have H := H1
     clear H1
     simp only [Option.some.injEq, Prod.mk.injEq] at H
     obtain ⟨rfl, rfl, rfl, rfl⟩ := H
     go_wp2_with (first | ((with_reducible refine gate_callee (f := 152) rfl ?_); refine goesL_ (some 90) rfl rfl Tryz.func152 (by kernel_rfl) rfl #[.string (a0.extract 0 (x4_1 : Int).toNat)] rfl (by (try simp only [List.map_toArray, List.map_cons, List.map_nil]); first | done | rfl | (simp only [List.length_drop, List.length_take]; rfl)) ?_; (with_reducible refine (value_Read_s.calls (a0.extract 0 (x4_1 : Int).toNat) t693 t694 t695 false _ ?side1 A106.out).mono ?_); (case side1 => exact LaidE.below HLD.out (by repeat (first | (with_reducible first | exact HB.out | apply yA | apply yN | apply yD | refine below_set ?_ GE666.out) | exact HB.out))); rintro e w113 ⟨rfl, hb⟩; refine ⟨_, rfl, ?_⟩; have n0_ := aM (blk_below (g := gb666) (o := .cells #[.int .i64 0, .int .i64 0, .string (⟨#[]⟩ : ByteArray)] 61 (0, 0)) (by (with_reducible repeat (first | refine zN ?_ _ | refine zD ?_ | refine zA ?_ _)); exact BK666.out) hb); have n1_ := aM (below_step (by repeat (first | (with_reducible first | exact HB.out | apply yA | apply yN | apply yD | refine below_set ?_ GE666.out) | exact HB.out)) hb); clear BK666; clear HB; have BK666 := n0_; have HB := n1_; clear n0_ n1_; (try clear hb); (try clear hb2); (try clear hk); (try clear hi)) | ((with_reducible refine gate_dst (N := 7) rfl ?_); refine box_event ?hg (N := 7) ?hd (cs := #[.int .i64 0, .int .i64 0, .string (⟨#[]⟩ : ByteArray)]) (t := 61) ?hr ?_; (case hd => rfl); (case hg => rfl); (case hr => first | (go_simp; done) | (go_simp; rfl)); intro gb697 hg w114 hbox hb; have n0_ := aM (blk_below (g := gb666) (o := .cells #[.int .i64 0, .int .i64 0, .string (⟨#[]⟩ : ByteArray)] 61 (0, 0)) (by (with_reducible repeat (first | refine zN ?_ _ | refine zD ?_ | refine zA ?_ _)); exact BK666.out) hb); have n1_ := aM (below_step (by repeat (first | (with_reducible first | exact HB.out | apply yA | apply yN | apply yD | refine below_set ?_ GE666.out) | exact HB.out)) hb); have n2_ := aM (hbox); have n3_ := aM ((by rw [hg]; exact (below_size (by repeat (first | (with_reducible first | exact HB.out | apply yA | apply yN | apply yD | refine below_set ?_ GE666.out) | exact HB.out))) : w.heap.size ≤ gb697)); have n4_ := n3_; have n5_ := aM ((by rw [hg]; exact Nat.ne_of_lt (blk_lt (g := gb666) (o := .cells #[.int .i64 0, .int .i64 0, .string (⟨#[]⟩ : ByteArray)] 61 (0, 0)) (by (with_reducible repeat (first | refine zN ?_ _ | refine zD ?_ | refine zA ?_ _)); exact BK666.out)) : gb666 ≠ gb697)); have n6_ := aM n5_.out.symm; clear BK666; clear HB; have BK666 := n0_; have HB := n1_; have BK697 := n2_; have GW697 := n3_; have GE697 := n4_; have NB666_697 := n5_; have NB697_666 := n6_; clear n0_ n1_ n2_ n3_ n4_ n5_ n6_; clear hb hbox hg; have hnb115 := NB697_666.out; have hnc115 := NB666_697.out; have hcz116_0 : w114.cell? ⟨gb697, 0, none⟩ = some (.int .i64 0) := (blk_cell BK697.out 0).trans rfl; have hcz116_1 : w114.cell? ⟨gb697, 1, none⟩ = some (.int .i64 0) := (blk_cell BK697.out 1).trans rfl; have hcz116_2 : w114.cell? ⟨gb697, 2, none⟩ = some (.string (⟨#[]⟩ : ByteArray)) := (blk_cell BK697.out 2).trans rfl; have hfz116_0 := blk_frozen BK697.out 0; have hfz116_1 := blk_frozen BK697.out 1; have hfz116_2 := blk_frozen BK697.out 2; have hcz117_0 : w114.cell? ⟨gb666, 0, none⟩ = some (.int .i64 0) := (blk_cell BK666.out 0).trans rfl; have hcz117_1 : w114.cell? ⟨gb666, 1, none⟩ = some (.int .i64 0) := (blk_cell BK666.out 1).trans rfl; have hcz117_2 : w114.cell? ⟨gb666, 2, none⟩ = some (.string (⟨#[]⟩ : ByteArray)) := (blk_cell BK666.out 2).trans rfl; have hfz117_0 := blk_frozen BK666.out 0; have hfz117_1 := blk_frozen BK666.out 1; have hfz117_2 := blk_frozen BK666.out 2))
     refine bodyPost_ret (results_ct rfl _ _ gb666 61 #[.int .i64 0, .int .i64 0, .string (⟨#[]⟩ : ByteArray)] (0, 0) _ rfl (by (with_reducible repeat (first | refine zN ?_ _ | refine zD ?_ | refine zA ?_ _)); refine blk_put (cs := #[.int .i64 0, .int .i64 0, .string (⟨#[]⟩ : ByteArray)]) ?_ 2 _ rfl; (with_reducible repeat (first | refine zN ?_ _ | refine zD ?_ | refine zA ?_ _)); refine blk_put (cs := #[.int .i64 0, .int .i64 0, .string (⟨#[]⟩ : ByteArray)]) ?_ 1 _ rfl; (with_reducible repeat (first | refine zN ?_ _ | refine zD ?_ | refine zA ?_ _)); refine blk_put (cs := #[.int .i64 0, .int .i64 0, .string (⟨#[]⟩ : ByteArray)]) ?_ 0 _ rfl; (with_reducible repeat (first | refine zN ?_ _ | refine zD ?_ | refine zA ?_ _)); refine blk_far ?_ NB666_697.out _; (with_reducible repeat (first | refine zN ?_ _ | refine zD ?_ | refine zA ?_ _)); refine blk_far ?_ NB666_697.out _; (with_reducible repeat (first | refine zN ?_ _ | refine zD ?_ | refine zA ?_ _)); refine blk_far ?_ NB666_697.out _; (with_reducible repeat (first | refine zN ?_ _ | refine zD ?_ | refine zA ?_ _)); exact BK666.out) Tryz.underlying61 rfl (by kernel_rfl)) rfl ?_
     exact ⟨by first | rfl | (simp [errW_none, errW_some] <;> rfl) | (simp [*, errW_none, errW_some] <;> rfl), by repeat (first | (with_reducible first | exact HB.out | apply yA | apply yN | apply yD | refine below_set ?_ GE666.out | refine below_set ?_ GE697.out) | exact HB.out)⟩
   ·rw [if_neg c105] at H
    exact absurd H (by simp)
end Go.Proofs.YtmhobbdedmjmnaaGreatDoor.Q
end
