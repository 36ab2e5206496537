/- Lemmas for the claim: contracts of functions and facts about what they compute, part 9 (texts put together, and cut down to what is used, by a program of ours). -/
import Derived.Test.YtmhobbdedmjmnaaGreatDoorMStrings7
section
namespace Go.Proofs.YtmhobbdedmjmnaaGreatDoor.Q
open Go.RowKit Go.Proofs.YtmhobbdedmjmnaaGreatDoorW.PrintWords Go.Proofs.YtmhobbdedmjmnaaGreatDoorW.PrintLast Go.Proofs.YtmhobbdedmjmnaaGreatDoorW.PrintMore
attribute [local go_sem] max2_int min2_int max_two min_two max_three min_three max_four min_four
set_option linter.unusedVariables false
set_option linter.unusedSimpArgs false
mutual
def tacticianref02_Value.j0 : Nat → ByteArray → Int → Bool → Option (Int × Int × ByteArray × Int)
  | 0, _, _, _ => none
  | k + 1, x0, x4, x14 => if x14 = true then (tacticianref02_Value.l0 k x0 1) else (tacticianref02_Value.l1 k x0 x4)
def tacticianref02_Value.j4 : Nat → ByteArray → Int → Option (Int × Int × ByteArray × Int)
  | 0, _, _ => none
  | k + 1, x0, x4 => if x4 > (x0.size : Int) then (some (0, 0, (⟨#[]⟩ : ByteArray), 0)) else (if 0 ≤ x4 then (if x4 ≤ (x0.size : Int) then ((tacticianref01_Parse.f k (x0.extract 0 (x4 : Int).toNat)).bind fun bt728 => (if bt728.2.2.2 = true then (some (bt728.1, bt728.2.1, bt728.2.2.1, x4)) else (some (0, 0, (⟨#[]⟩ : ByteArray), 0)))) else (none)) else (none))
def tacticianref02_Value.l0 : Nat → ByteArray → Int → Option (Int × Int × ByteArray × Int)
  | 0, _, _ => none
  | k + 1, x0, x4 => if x4 < (x0.size : Int) then (if 0 ≤ x4 then (if (bt x0 x4) = 39 then (if (wrap64 (x4 + 1)) < (x0.size : Int) then (if 0 ≤ (wrap64 (x4 + 1)) then (tacticianref02_Value.j2 k x0 x4 ((bt x0 (wrap64 (x4 + 1))) == 39)) else (none)) else (tacticianref02_Value.j2 k x0 x4 false)) else (tacticianref02_Value.j2 k x0 x4 true)) else (none)) else (tacticianref02_Value.j2 k x0 x4 false)
def tacticianref02_Value.j2 : Nat → ByteArray → Int → Bool → Option (Int × Int × ByteArray × Int)
  | 0, _, _, _ => none
  | k + 1, x0, x4, x38 => if x38 = true then (if 0 ≤ x4 then (if x4 < (x0.size : Int) then (if (bt x0 x4) = 39 then (tacticianref02_Value.l0 k x0 (wrap64 ((wrap64 (x4 + 1)) + 1))) else (tacticianref02_Value.l0 k x0 (wrap64 (x4 + 1)))) else (none)) else (none)) else (tacticianref02_Value.j4 k x0 (wrap64 (x4 + 1)))
def tacticianref02_Value.l1 : Nat → ByteArray → Int → Option (Int × Int × ByteArray × Int)
  | 0, _, _ => none
  | k + 1, x0, x4 => if x4 < (x0.size : Int) then (if 0 ≤ x4 then (if (bt x0 x4) = 45 then (tacticianref02_Value.l1 k x0 (wrap64 (x4 + 1))) else (if (bt x0 x4) ≥ 48 then (if (bt x0 x4) ≤ 57 then (tacticianref02_Value.l1 k x0 (wrap64 (x4 + 1))) else (if (bt x0 x4) ≥ 97 then (if (bt x0 x4) ≤ 122 then (tacticianref02_Value.l1 k x0 (wrap64 (x4 + 1))) else (tacticianref02_Value.j4 k x0 x4)) else (tacticianref02_Value.j4 k x0 x4))) else (if (bt x0 x4) ≥ 97 then (if (bt x0 x4) ≤ 122 then (tacticianref02_Value.l1 k x0 (wrap64 (x4 + 1))) else (tacticianref02_Value.j4 k x0 x4)) else (tacticianref02_Value.j4 k x0 x4)))) else (none)) else (tacticianref02_Value.j4 k x0 x4)
end
def tacticianref02_Value.f (k : Nat) (a0 : ByteArray) : Option (Int × Int × ByteArray × Int) := if (a0.size : Int) > 0 then (if 0 < (a0.size : Int) then (tacticianref02_Value.j0 k a0 0 ((bt a0 0) == 39)) else (none)) else (tacticianref02_Value.j0 k a0 0 false)
set_option maxHeartbeats 8000000 in
set_option maxRecDepth 100000 in
theorem tacticianref02_Value.calls (k : Nat) (a0 : ByteArray) (r1 : Int) (r2 : Int) (r3 : ByteArray) (r4 : Int) (w : World) (h : tacticianref02_Value.f k a0 = some (r1, r2, r3, r4)) :
  Calls Tryz.prog 122 #[.string a0] w fun e w' => e = .returned (.tuple #[.agg #[.int .i64 r1, .int .i64 r2, .string r3], .int .i64 r4]) ∧ Below w.heap.size w w' := by
 have hu61 := Tryz.underlying61
 have HB := aM (Below.refl w.heap.size w)
 have H : (if (a0.size : Int) > 0 then (if 0 < (a0.size : Int) then (tacticianref02_Value.j0 k a0 0 ((bt a0 0) == 39)) else (none)) else (tacticianref02_Value.j0 k a0 0 false)) = some (r1, r2, r3, r4) := h
 clear h
 have HC2 := aM H
 clear H
 go_enter Tryz.func122, Tryz.ntmps122
 go_upto_region 2 with (first | ((with_reducible refine gate_dst (N := 2) rfl ?_); (try (refine gate_guard (by rfl) ?_; dsimp only)); refine box_event ?hg (N := 2) ?hd (cs := #[.int .i64 0, .int .i64 0, .string (⟨#[]⟩ : ByteArray)]) (t := 61) ?hr ?_; (case hd => rfl); (case hg => rfl); (case hr => first | (go_simp; done) | (go_simp; rfl)); intro gb727 hg w3 hbox hb; have n0_ := aM (below_step (by repeat (first | (with_reducible first | exact HB.out | apply yA | apply yN | apply yD) | exact HB.out)) hb); have n1_ := aM (hbox); have n2_ := aM ((by rw [hg]; exact (below_size (by repeat (first | (with_reducible first | exact HB.out | apply yA | apply yN | apply yD) | exact HB.out))) : w.heap.size ≤ gb727)); have n3_ := n2_; clear HB; have HB := n0_; have BK727 := n1_; have GW727 := n2_; have GE727 := n3_; clear n0_ n1_ n2_ n3_; clear hb hbox hg))
 (try simp only [Act.put, List.setIfInBounds_toArray, List.set_cons_zero, List.set_cons_succ])
 go_cut [14] (fun v14 wc => ∃ (kq : Nat) (x14_1 : Bool), v14 = .bool x14_1 ∧ Aside0 (tacticianref02_Value.j0 kq a0 0 x14_1 = some (r1, r2, r3, r4)) ∧ Aside0 (kq ≤ k) ∧ Aside0 (wc.heap[gb727]? = some (.cells #[.int .i64 0, .int .i64 0, .string (⟨#[]⟩ : ByteArray)] 61 (0, 0))) ∧ Aside0 (Below w.heap.size w wc))
 case first =>
  have H := HC2.out
  clear HC2
  by_cases c4 : (a0.size : Int) > 0
  ·rw [if_pos c4] at H
   have c4b0 : decide (0 < (a0.size : Int)) = true := decide_eq_true c4
   have c4b1 : decide (0 < a0.size) = true := decide_eq_true (by omega)
   clear c4
   (first | rw [c4b0] | (simp only [i64_w, i32_w]; rw [c4b0]) | skip)
   by_cases c5 : 0 < (a0.size : Int)
   ·rw [if_pos c5] at H
    have c5b0 : decide (0 < (a0.size : Int)) = true := decide_eq_true c5
    have c5b1 : decide (0 < a0.size) = true := decide_eq_true (by omega)
    clear c5
    have H' := aM H
    clear H
    have p6 : 0 ≤ (0 : Int) := (by omega)
    have q6 : 0 < a0.size := (by have : (0 : Int) < (a0.size : Int) := of_decide_eq_true (by first | (with_reducible assumption) | assumption); omega)
    have hx6 : ∀ h : 0 < a0.size, ((a0[0]'h).toNat : Int) = bt a0 0 := bt_at a0 0
    clear p6
    have qi6 : (0 < (a0.size : Int)) = True := eq_true (of_decide_eq_true (by first | (with_reducible assumption) | assumption))
    replace q6 := eq_true q6
    go_wp2
    go_meet
    case rel => exact ⟨_, (((bt a0 0) == 39)), (by first | rfl | (simp; done) | (simp [*]; done)), H', ⟨by first | omega | exact Nat.le_refl _⟩, ⟨by (with_reducible repeat (first | refine zN ?_ _ | refine zD ?_ | refine zA ?_ _)); exact BK727.out⟩, ⟨by repeat (first | (with_reducible first | exact HB.out | apply yA | apply yN | apply yD | refine below_set ?_ GE727.out) | exact HB.out)⟩⟩
   ·rw [if_neg c5] at H
    exact absurd H (by simp)
  ·rw [if_neg c4] at H
   have c4b0 : decide (0 < (a0.size : Int)) = false := decide_eq_false c4
   have c4b1 : decide (0 < a0.size) = false := decide_eq_false (by omega)
   clear c4
   (first | rw [c4b0] | (simp only [i64_w, i32_w]; rw [c4b0]) | skip)
   have H' := aM H
   clear H
   go_wp2
   go_meet
   case rel => exact ⟨_, (false), (by first | rfl | (simp; done) | (simp [*]; done)), H', ⟨by first | omega | exact Nat.le_refl _⟩, ⟨by (with_reducible repeat (first | refine zN ?_ _ | refine zD ?_ | refine zA ?_ _)); exact BK727.out⟩, ⟨by repeat (first | (with_reducible first | exact HB.out | apply yA | apply yN | apply yD | refine below_set ?_ GE727.out) | exact HB.out)⟩⟩
 case rest =>
  clear HC2
  obtain ⟨kq, x14_1, rfl, HA, HJ1, BK727, HB⟩ := hcut
  cases kq with
  | zero => exact absurd HA.out (by simp [tacticianref02_Value.j0])
  | succ kj1 =>
   have H := HA.out
   clear HA
   simp only [tacticianref02_Value.j0] at H
   have HC7 := aM H
   clear H
   go_upto_if 14 with (fail)
   go_cut [4] (fun v4 wc => ∃ (kq : Nat) (x4_6 : Int), v4 = .int .i64 x4_6 ∧ Aside0 (tacticianref02_Value.j4 kq a0 x4_6 = some (r1, r2, r3, r4)) ∧ Aside0 (kq ≤ kj1) ∧ Aside0 (wc.heap[gb727]? = some (.cells #[.int .i64 0, .int .i64 0, .string (⟨#[]⟩ : ByteArray)] 61 (0, 0))) ∧ Aside0 (Below w.heap.size w wc))
   case first =>
    have H := HC7.out
    clear HC7
    by_cases c8 : x14_1 = true
    ·subst c8
     have H1 : (tacticianref02_Value.l0 kj1 a0 1) = some (r1, r2, r3, r4) := by rw [if_pos rfl] at H; exact H
     clear H
     have H := H1
     clear H1
     have H' := aM H
     clear H
     go_wp2
     go_loopg [4] kj1 (fun kq v4 w' => ∃ (x4_2 : Int), v4 = .int .i64 x4_2 ∧ Aside0 (tacticianref02_Value.l0 kq a0 x4_2 = some (r1, r2, r3, r4)) ∧ Aside0 (kq ≤ kj1) ∧ Aside0 (w'.heap[gb727]? = some (.cells #[.int .i64 0, .int .i64 0, .string (⟨#[]⟩ : ByteArray)] 61 (0, 0))) ∧ Aside0 (Below w.heap.size w w'))
     case atStart => exact ⟨(1), (by first | rfl | (simp; done) | (simp [*]; done)), H', ⟨Nat.le_refl _⟩, ⟨by (with_reducible repeat (first | refine zN ?_ _ | refine zD ?_ | refine zA ?_ _)); exact BK727.out⟩, ⟨by repeat (first | (with_reducible first | exact HB.out | apply yA | apply yN | apply yD | refine below_set ?_ GE727.out) | exact HB.out)⟩⟩
     case round =>
      clear H'
      try clear c8
      obtain ⟨x4_2, rfl, HA, HK2, BK727, HB⟩ := hrel
      cases gk with
      | zero => exact absurd HA.out (by simp [tacticianref02_Value.l0])
      | succ k2 =>
       have H := HA.out
       clear HA
       simp only [tacticianref02_Value.l0] at H
       have HC9 := aM H
       clear H
       go_upto_region 4 with (fail)
       go_cut [38] (fun v38 wc => ∃ (kq : Nat) (x38_8 : Bool), v38 = .bool x38_8 ∧ Aside0 (tacticianref02_Value.j2 kq a0 x4_2 x38_8 = some (r1, r2, r3, r4)) ∧ Aside0 (kq ≤ k2) ∧ Aside0 (wc.heap[gb727]? = some (.cells #[.int .i64 0, .int .i64 0, .string (⟨#[]⟩ : ByteArray)] 61 (0, 0))) ∧ Aside0 (Below w.heap.size w wc))
       case first =>
        have H := HC9.out
        clear HC9
        by_cases c10 : x4_2 < (a0.size : Int)
        ·rw [if_pos c10] at H
         have c10b0 : decide (x4_2 < (a0.size : Int)) = true := decide_eq_true c10
         clear c10
         (first | rw [c10b0] | (simp only [i64_w, i32_w]; rw [c10b0]) | skip)
         by_cases c11 : 0 ≤ x4_2
         ·rw [if_pos c11] at H
          have c11b0 : decide (0 ≤ x4_2) = true := decide_eq_true c11
          clear c11
          by_cases c13 : (bt a0 x4_2) = 39
          ·rw [if_pos c13] at H
           have c13b0 : ((bt a0 x4_2) == 39) = true := beq_iff_eq.mpr c13
           have c13b1 : ((bt a0 x4_2) != 39) = false := bne_eq_false_iff_eq.mpr c13
           clear c13
           by_cases c14 : (wrap64 (x4_2 + 1)) < (a0.size : Int)
           ·rw [if_pos c14] at H
            have c14b0 : decide ((wrap64 (x4_2 + 1)) < (a0.size : Int)) = true := decide_eq_true c14
            clear c14
            obtain ⟨ji15, hji15⟩ : ∃ j_ : Int, (wrap64 (x4_2 + 1)) = j_ := ⟨_, rfl⟩
            replace H : (if 0 ≤ (ji15) then (tacticianref02_Value.j2 k2 a0 x4_2 ((bt a0 (ji15)) == 39)) else (none)) = some (r1, r2, r3, r4) := by first | (rw [hji15] at H; exact H) | (simp only [hji15] at H ⊢; exact H)
            (try rw [hji15] at c14b0)
            have hji15w : (IntKind.i64.wrap (x4_2 + 1)) = ji15 := (i64_w _).trans hji15
            by_cases c16 : 0 ≤ (ji15)
            ·rw [if_pos c16] at H
             have c16b0 : decide (0 ≤ (ji15)) = true := decide_eq_true c16
             clear c16
             have H' := aM H
             clear H
             have p12 : 0 ≤ (x4_2 : Int) := of_decide_eq_true (by first | (with_reducible assumption) | assumption)
             have q12 : x4_2 < (a0.size : Int) := of_decide_eq_true (by first | (with_reducible assumption) | assumption)
             have hx12 := bt_at a0 x4_2
             replace p12 := eq_true p12
             replace q12 := eq_true q12
             have p17 : 0 ≤ ((ji15) : Int) := of_decide_eq_true (by first | (with_reducible assumption) | assumption)
             have q17 : (ji15) < (a0.size : Int) := of_decide_eq_true (by first | (with_reducible assumption) | assumption)
             have hx17 := bt_at a0 (ji15)
             replace p17 := eq_true p17
             replace q17 := eq_true q17
             go_wp2
             go_meet
             case rel => exact ⟨_, (((bt a0 (ji15)) == 39)), (by first | rfl | (simp; done) | (simp only [← hji15] <;> (first | rfl | simp)) | (simp [*]; done)), (by first | exact H' | (rw [hji15]; exact H') | (simp only [hji15]; exact H')), ⟨by have := HJ1.out; have := HK2.out; first | omega | exact Nat.le_refl _⟩, ⟨by (with_reducible repeat (first | refine zN ?_ _ | refine zD ?_ | refine zA ?_ _)); exact BK727.out⟩, ⟨by repeat (first | (with_reducible first | exact HB.out | apply yA | apply yN | apply yD | refine below_set ?_ GE727.out) | exact HB.out)⟩⟩
            ·rw [if_neg c16] at H
             exact absurd H (by simp)
           ·rw [if_neg c14] at H
            have c14b0 : decide ((wrap64 (x4_2 + 1)) < (a0.size : Int)) = false := decide_eq_false c14
            clear c14
            have H' := aM H
            clear H
            have p12 : 0 ≤ (x4_2 : Int) := of_decide_eq_true (by first | (with_reducible assumption) | assumption)
            have q12 : x4_2 < (a0.size : Int) := of_decide_eq_true (by first | (with_reducible assumption) | assumption)
            have hx12 := bt_at a0 x4_2
            replace p12 := eq_true p12
            replace q12 := eq_true q12
            go_wp2
            go_meet
            case rel => exact ⟨_, (false), (by first | rfl | (simp; done) | (simp [*]; done)), H', ⟨by have := HJ1.out; have := HK2.out; first | omega | exact Nat.le_refl _⟩, ⟨by (with_reducible repeat (first | refine zN ?_ _ | refine zD ?_ | refine zA ?_ _)); exact BK727.out⟩, ⟨by repeat (first | (with_reducible first | exact HB.out | apply yA | apply yN | apply yD | refine below_set ?_ GE727.out) | exact HB.out)⟩⟩
          ·rw [if_neg c13] at H
           have c13b0 : ((bt a0 x4_2) == 39) = false := beq_eq_false_iff_ne.mpr c13
           have c13b1 : ((bt a0 x4_2) != 39) = true := bne_iff_ne.mpr c13
           have H' := aM H
           clear H
           have p12 : 0 ≤ (x4_2 : Int) := of_decide_eq_true (by first | (with_reducible assumption) | assumption)
           have q12 : x4_2 < (a0.size : Int) := of_decide_eq_true (by first | (with_reducible assumption) | assumption)
           have hx12 := bt_at a0 x4_2
           replace p12 := eq_true p12
           replace q12 := eq_true q12
           go_wp2
           go_meet
           case rel => exact ⟨_, (true), (by first | rfl | (simp; done) | (simp [*]; done)), H', ⟨by have := HJ1.out; have := HK2.out; first | omega | exact Nat.le_refl _⟩, ⟨by (with_reducible repeat (first | refine zN ?_ _ | refine zD ?_ | refine zA ?_ _)); exact BK727.out⟩, ⟨by repeat (first | (with_reducible first | exact HB.out | apply yA | apply yN | apply yD | refine below_set ?_ GE727.out) | exact HB.out)⟩⟩
         ·rw [if_neg c11] at H
          exact absurd H (by simp)
        ·rw [if_neg c10] at H
         have c10b0 : decide (x4_2 < (a0.size : Int)) = false := decide_eq_false c10
         clear c10
         (first | rw [c10b0] | (simp only [i64_w, i32_w]; rw [c10b0]) | skip)
         have H' := aM H
         clear H
         go_wp2
         go_meet
         case rel => exact ⟨_, (false), (by first | rfl | (simp; done) | (simp [*]; done)), H', ⟨by have := HJ1.out; have := HK2.out; first | omega | exact Nat.le_refl _⟩, ⟨by (with_reducible repeat (first | refine zN ?_ _ | refine zD ?_ | refine zA ?_ _)); exact BK727.out⟩, ⟨by repeat (first | (with_reducible first | exact HB.out | apply yA | apply yN | apply yD | refine below_set ?_ GE727.out) | exact HB.out)⟩⟩
       case rest =>
        clear HC9
        try clear c8
        obtain ⟨kq, x38_8, rfl, HA, HJ8, BK727, HB⟩ := hcut
        cases kq with
        | zero => exact absurd HA.out (by simp [tacticianref02_Value.j2])
        | succ kj8 =>
         have H := HA.out
         clear HA
         simp only [tacticianref02_Value.j2] at H
         by_cases c18 : x38_8 = true
         ·subst c18
          have H1 : (if 0 ≤ x4_2 then (if x4_2 < (a0.size : Int) then (if (bt a0 x4_2) = 39 then (tacticianref02_Value.l0 kj8 a0 (wrap64 ((wrap64 (x4_2 + 1)) + 1))) else (tacticianref02_Value.l0 kj8 a0 (wrap64 (x4_2 + 1)))) else (none)) else (none)) = some (r1, r2, r3, r4) := by rw [if_pos rfl] at H; exact H
          clear H
          have H := H1
          clear H1
          by_cases c19 : 0 ≤ x4_2
          ·rw [if_pos c19] at H
           have c19b0 : decide (0 ≤ x4_2) = true := decide_eq_true c19
           clear c19
           by_cases c20 : x4_2 < (a0.size : Int)
           ·rw [if_pos c20] at H
            have c20b0 : decide (x4_2 < (a0.size : Int)) = true := decide_eq_true c20
            clear c20
            by_cases c22 : (bt a0 x4_2) = 39
            ·rw [if_pos c22] at H
             have c22b0 : ((bt a0 x4_2) == 39) = true := beq_iff_eq.mpr c22
             have c22b1 : ((bt a0 x4_2) != 39) = false := bne_eq_false_iff_eq.mpr c22
             clear c22
             have H' := aM H
             clear H
             have p21 : 0 ≤ (x4_2 : Int) := of_decide_eq_true (by first | (with_reducible assumption) | assumption)
             have q21 : x4_2 < (a0.size : Int) := of_decide_eq_true (by first | (with_reducible assumption) | assumption)
             have hx21 := bt_at a0 x4_2
             replace p21 := eq_true p21
             replace q21 := eq_true q21
             go_wp2
             go_roundg kj8
             case measure => have := HJ1.out; have := HK2.out; have := HJ8.out; omega
             case rel => exact ⟨(wrap64 ((wrap64 (x4_2 + 1)) + 1)), (by first | rfl | (simp; done) | (simp [*]; done)), H', ⟨by have := HJ1.out; have := HK2.out; have := HJ8.out; omega⟩, ⟨by (with_reducible repeat (first | refine zN ?_ _ | refine zD ?_ | refine zA ?_ _)); exact BK727.out⟩, ⟨by repeat (first | (with_reducible first | exact HB.out | apply yA | apply yN | apply yD | refine below_set ?_ GE727.out) | exact HB.out)⟩⟩
            ·rw [if_neg c22] at H
             have c22b0 : ((bt a0 x4_2) == 39) = false := beq_eq_false_iff_ne.mpr c22
             have c22b1 : ((bt a0 x4_2) != 39) = true := bne_iff_ne.mpr c22
             have H' := aM H
             clear H
             have p21 : 0 ≤ (x4_2 : Int) := of_decide_eq_true (by first | (with_reducible assumption) | assumption)
             have q21 : x4_2 < (a0.size : Int) := of_decide_eq_true (by first | (with_reducible assumption) | assumption)
             have hx21 := bt_at a0 x4_2
             replace p21 := eq_true p21
             replace q21 := eq_true q21
             go_wp2
             go_roundg kj8
             case measure => have := HJ1.out; have := HK2.out; have := HJ8.out; omega
             case rel => exact ⟨(wrap64 (x4_2 + 1)), (by first | rfl | (simp; done) | (simp [*]; done)), H', ⟨by have := HJ1.out; have := HK2.out; have := HJ8.out; omega⟩, ⟨by (with_reducible repeat (first | refine zN ?_ _ | refine zD ?_ | refine zA ?_ _)); exact BK727.out⟩, ⟨by repeat (first | (with_reducible first | exact HB.out | apply yA | apply yN | apply yD | refine below_set ?_ GE727.out) | exact HB.out)⟩⟩
           ·rw [if_neg c20] at H
            exact absurd H (by simp)
          ·rw [if_neg c19] at H
           exact absurd H (by simp)
         ·replace c18 := Bool.eq_false_iff.mpr c18
          subst c18
          have H1 : (tacticianref02_Value.j4 kj8 a0 (wrap64 (x4_2 + 1))) = some (r1, r2, r3, r4) := by rw [if_neg (show ¬ (false = true) by decide)] at H; exact H
          clear H
          have H := H1
          clear H1
          have H' := aM H
          clear H
          go_wp2
          go_meet
          case rel => exact ⟨_, (wrap64 (x4_2 + 1)), (by first | rfl | (simp; done) | (simp [*]; done)), H', ⟨by have := HJ1.out; have := HK2.out; have := HJ8.out; first | omega | exact Nat.le_refl _⟩, ⟨by (with_reducible repeat (first | refine zN ?_ _ | refine zD ?_ | refine zA ?_ _)); exact BK727.out⟩, ⟨by repeat (first | (with_reducible first | exact HB.out | apply yA | apply yN | apply yD | refine below_set ?_ GE727.out) | exact HB.out)⟩⟩
    ·replace c8 := Bool.eq_false_iff.mpr c8
     subst c8
     have H1 : (tacticianref02_Value.l1 kj1 a0 0) = some (r1, r2, r3, r4) := by rw [if_neg (show ¬ (false = true) by decide)] at H; exact H
     clear H
     have H := H1
     clear H1
     have H' := aM H
     clear H
     go_wp2
     go_loopg [4] kj1 (fun kq v4 w' => ∃ (x4_2 : Int), v4 = .int .i64 x4_2 ∧ Aside0 (tacticianref02_Value.l1 kq a0 x4_2 = some (r1, r2, r3, r4)) ∧ Aside0 (kq ≤ kj1) ∧ Aside0 (w'.heap[gb727]? = some (.cells #[.int .i64 0, .int .i64 0, .string (⟨#[]⟩ : ByteArray)] 61 (0, 0))) ∧ Aside0 (Below w.heap.size w w'))
     case atStart => exact ⟨(0), (by first | rfl | (simp; done) | (simp [*]; done)), H', ⟨Nat.le_refl _⟩, ⟨by (with_reducible repeat (first | refine zN ?_ _ | refine zD ?_ | refine zA ?_ _)); exact BK727.out⟩, ⟨by repeat (first | (with_reducible first | exact HB.out | apply yA | apply yN | apply yD | refine below_set ?_ GE727.out) | exact HB.out)⟩⟩
     case round =>
      clear H'
      try clear c8
      obtain ⟨x4_2, rfl, HA, HK2, BK727, HB⟩ := hrel
      cases gk with
      | zero => exact absurd HA.out (by simp [tacticianref02_Value.l1])
      | succ k2 =>
       have H := HA.out
       clear HA
       simp only [tacticianref02_Value.l1] at H
       by_cases c23 : x4_2 < (a0.size : Int)
       ·rw [if_pos c23] at H
        have c23b0 : decide (x4_2 < (a0.size : Int)) = true := decide_eq_true c23
        clear c23
        by_cases c24 : 0 ≤ x4_2
        ·rw [if_pos c24] at H
         have c24b0 : decide (0 ≤ x4_2) = true := decide_eq_true c24
         clear c24
         by_cases c26 : (bt a0 x4_2) = 45
         ·rw [if_pos c26] at H
          have c26b0 : ((bt a0 x4_2) == 45) = true := beq_iff_eq.mpr c26
          have c26b1 : ((bt a0 x4_2) != 45) = false := bne_eq_false_iff_eq.mpr c26
          clear c26
          have H' := aM H
          clear H
          have p25 : 0 ≤ (x4_2 : Int) := of_decide_eq_true (by first | (with_reducible assumption) | assumption)
          have q25 : x4_2 < (a0.size : Int) := of_decide_eq_true (by first | (with_reducible assumption) | assumption)
          have hx25 := bt_at a0 x4_2
          replace p25 := eq_true p25
          replace q25 := eq_true q25
          go_wp2
          go_roundg k2
          case measure => have := HJ1.out; have := HK2.out; omega
          case rel => exact ⟨(wrap64 (x4_2 + 1)), (by first | rfl | (simp; done) | (simp [*]; done)), H', ⟨by have := HJ1.out; have := HK2.out; omega⟩, ⟨by (with_reducible repeat (first | refine zN ?_ _ | refine zD ?_ | refine zA ?_ _)); exact BK727.out⟩, ⟨by repeat (first | (with_reducible first | exact HB.out | apply yA | apply yN | apply yD | refine below_set ?_ GE727.out) | exact HB.out)⟩⟩
         ·rw [if_neg c26] at H
          have c26b0 : ((bt a0 x4_2) == 45) = false := beq_eq_false_iff_ne.mpr c26
          have c26b1 : ((bt a0 x4_2) != 45) = true := bne_iff_ne.mpr c26
          by_cases c28 : (bt a0 x4_2) ≥ 48
          ·rw [if_pos c28] at H
           have c28b0 : decide (48 ≤ (bt a0 x4_2)) = true := decide_eq_true c28
           clear c28
           by_cases c30 : (bt a0 x4_2) ≤ 57
           ·rw [if_pos c30] at H
            have c30b0 : decide ((bt a0 x4_2) ≤ 57) = true := decide_eq_true c30
            clear c30
            have H' := aM H
            clear H
            have p25 : 0 ≤ (x4_2 : Int) := of_decide_eq_true (by first | (with_reducible assumption) | assumption)
            have q25 : x4_2 < (a0.size : Int) := of_decide_eq_true (by first | (with_reducible assumption) | assumption)
            have hx25 := bt_at a0 x4_2
            replace p25 := eq_true p25
            replace q25 := eq_true q25
            go_wp2
            go_roundg k2
            case measure => have := HJ1.out; have := HK2.out; omega
            case rel => exact ⟨(wrap64 (x4_2 + 1)), (by first | rfl | (simp; done) | (simp [*]; done)), H', ⟨by have := HJ1.out; have := HK2.out; omega⟩, ⟨by (with_reducible repeat (first | refine zN ?_ _ | refine zD ?_ | refine zA ?_ _)); exact BK727.out⟩, ⟨by repeat (first | (with_reducible first | exact HB.out | apply yA | apply yN | apply yD | refine below_set ?_ GE727.out) | exact HB.out)⟩⟩
           ·rw [if_neg c30] at H
            have c30b0 : decide ((bt a0 x4_2) ≤ 57) = false := decide_eq_false c30
            clear c30
            by_cases c32 : (bt a0 x4_2) ≥ 97
            ·rw [if_pos c32] at H
             have c32b0 : decide (97 ≤ (bt a0 x4_2)) = true := decide_eq_true c32
             clear c32
             by_cases c34 : (bt a0 x4_2) ≤ 122
             ·rw [if_pos c34] at H
              have c34b0 : decide ((bt a0 x4_2) ≤ 122) = true := decide_eq_true c34
              clear c34
              have H' := aM H
              clear H
              have p25 : 0 ≤ (x4_2 : Int) := of_decide_eq_true (by first | (with_reducible assumption) | assumption)
              have q25 : x4_2 < (a0.size : Int) := of_decide_eq_true (by first | (with_reducible assumption) | assumption)
              have hx25 := bt_at a0 x4_2
              replace p25 := eq_true p25
              replace q25 := eq_true q25
              go_wp2
              go_roundg k2
              case measure => have := HJ1.out; have := HK2.out; omega
              case rel => exact ⟨(wrap64 (x4_2 + 1)), (by first | rfl | (simp; done) | (simp [*]; done)), H', ⟨by have := HJ1.out; have := HK2.out; omega⟩, ⟨by (with_reducible repeat (first | refine zN ?_ _ | refine zD ?_ | refine zA ?_ _)); exact BK727.out⟩, ⟨by repeat (first | (with_reducible first | exact HB.out | apply yA | apply yN | apply yD | refine below_set ?_ GE727.out) | exact HB.out)⟩⟩
             ·rw [if_neg c34] at H
              have c34b0 : decide ((bt a0 x4_2) ≤ 122) = false := decide_eq_false c34
              clear c34
              have H' := aM H
              clear H
              have p25 : 0 ≤ (x4_2 : Int) := of_decide_eq_true (by first | (with_reducible assumption) | assumption)
              have q25 : x4_2 < (a0.size : Int) := of_decide_eq_true (by first | (with_reducible assumption) | assumption)
              have hx25 := bt_at a0 x4_2
              replace p25 := eq_true p25
              replace q25 := eq_true q25
              go_wp2
              go_meet
              case rel => exact ⟨_, (x4_2), (by first | rfl | (simp; done) | (simp [*]; done)), H', ⟨by have := HJ1.out; have := HK2.out; first | omega | exact Nat.le_refl _⟩, ⟨by (with_reducible repeat (first | refine zN ?_ _ | refine zD ?_ | refine zA ?_ _)); exact BK727.out⟩, ⟨by repeat (first | (with_reducible first | exact HB.out | apply yA | apply yN | apply yD | refine below_set ?_ GE727.out) | exact HB.out)⟩⟩
            ·rw [if_neg c32] at H
             have c32b0 : decide (97 ≤ (bt a0 x4_2)) = false := decide_eq_false c32
             clear c32
             have H' := aM H
             clear H
             have p25 : 0 ≤ (x4_2 : Int) := of_decide_eq_true (by first | (with_reducible assumption) | assumption)
             have q25 : x4_2 < (a0.size : Int) := of_decide_eq_true (by first | (with_reducible assumption) | assumption)
             have hx25 := bt_at a0 x4_2
             replace p25 := eq_true p25
             replace q25 := eq_true q25
             go_wp2
             go_meet
             case rel => exact ⟨_, (x4_2), (by first | rfl | (simp; done) | (simp [*]; done)), H', ⟨by have := HJ1.out; have := HK2.out; first | omega | exact Nat.le_refl _⟩, ⟨by (with_reducible repeat (first | refine zN ?_ _ | refine zD ?_ | refine zA ?_ _)); exact BK727.out⟩, ⟨by repeat (first | (with_reducible first | exact HB.out | apply yA | apply yN | apply yD | refine below_set ?_ GE727.out) | exact HB.out)⟩⟩
          ·rw [if_neg c28] at H
           have c28b0 : decide (48 ≤ (bt a0 x4_2)) = false := decide_eq_false c28
           clear c28
           by_cases c36 : (bt a0 x4_2) ≥ 97
           ·rw [if_pos c36] at H
            have c36b0 : decide (97 ≤ (bt a0 x4_2)) = true := decide_eq_true c36
            clear c36
            by_cases c38 : (bt a0 x4_2) ≤ 122
            ·rw [if_pos c38] at H
             have c38b0 : decide ((bt a0 x4_2) ≤ 122) = true := decide_eq_true c38
             clear c38
             have H' := aM H
             clear H
             have p25 : 0 ≤ (x4_2 : Int) := of_decide_eq_true (by first | (with_reducible assumption) | assumption)
             have q25 : x4_2 < (a0.size : Int) := of_decide_eq_true (by first | (with_reducible assumption) | assumption)
             have hx25 := bt_at a0 x4_2
             replace p25 := eq_true p25
             replace q25 := eq_true q25
             go_wp2
             go_roundg k2
             case measure => have := HJ1.out; have := HK2.out; omega
             case rel => exact ⟨(wrap64 (x4_2 + 1)), (by first | rfl | (simp; done) | (simp [*]; done)), H', ⟨by have := HJ1.out; have := HK2.out; omega⟩, ⟨by (with_reducible repeat (first | refine zN ?_ _ | refine zD ?_ | refine zA ?_ _)); exact BK727.out⟩, ⟨by repeat (first | (with_reducible first | exact HB.out | apply yA | apply yN | apply yD | refine below_set ?_ GE727.out) | exact HB.out)⟩⟩
            ·rw [if_neg c38] at H
             have c38b0 : decide ((bt a0 x4_2) ≤ 122) = false := decide_eq_false c38
             clear c38
             have H' := aM H
             clear H
             have p25 : 0 ≤ (x4_2 : Int) := of_decide_eq_true (by first | (with_reducible assumption) | assumption)
             have q25 : x4_2 < (a0.size : Int) := of_decide_eq_true (by first | (with_reducible assumption) | assumption)
             have hx25 := bt_at a0 x4_2
             replace p25 := eq_true p25
             replace q25 := eq_true q25
             go_wp2
             go_meet
             case rel => exact ⟨_, (x4_2), (by first | rfl | (simp; done) | (simp [*]; done)), H', ⟨by have := HJ1.out; have := HK2.out; first | omega | exact Nat.le_refl _⟩, ⟨by (with_reducible repeat (first | refine zN ?_ _ | refine zD ?_ | refine zA ?_ _)); exact BK727.out⟩, ⟨by repeat (first | (with_reducible first | exact HB.out | apply yA | apply yN | apply yD | refine below_set ?_ GE727.out) | exact HB.out)⟩⟩
           ·rw [if_neg c36] at H
            have c36b0 : decide (97 ≤ (bt a0 x4_2)) = false := decide_eq_false c36
            clear c36
            have H' := aM H
            clear H
            have p25 : 0 ≤ (x4_2 : Int) := of_decide_eq_true (by first | (with_reducible assumption) | assumption)
            have q25 : x4_2 < (a0.size : Int) := of_decide_eq_true (by first | (with_reducible assumption) | assumption)
            have hx25 := bt_at a0 x4_2
            replace p25 := eq_true p25
            replace q25 := eq_true q25
            go_wp2
            go_meet
            case rel => exact ⟨_, (x4_2), (by first | rfl | (simp; done) | (simp [*]; done)), H', ⟨by have := HJ1.out; have := HK2.out; first | omega | exact Nat.le_refl _⟩, ⟨by (with_reducible repeat (first | refine zN ?_ _ | refine zD ?_ | refine zA ?_ _)); exact BK727.out⟩, ⟨by repeat (first | (with_reducible first | exact HB.out | apply yA | apply yN | apply yD | refine below_set ?_ GE727.out) | exact HB.out)⟩⟩
        ·rw [if_neg c24] at H
         exact absurd H (by simp)
       ·rw [if_neg c23] at H
        have c23b0 : decide (x4_2 < (a0.size : Int)) = false := decide_eq_false c23
        clear c23
        have H' := aM H
        clear H
        go_wp2
        go_meet
        case rel => exact ⟨_, (x4_2), (by first | rfl | (simp; done) | (simp [*]; done)), H', ⟨by have := HJ1.out; have := HK2.out; first | omega | exact Nat.le_refl _⟩, ⟨by (with_reducible repeat (first | refine zN ?_ _ | refine zD ?_ | refine zA ?_ _)); exact BK727.out⟩, ⟨by repeat (first | (with_reducible first | exact HB.out | apply yA | apply yN | apply yD | refine below_set ?_ GE727.out) | exact HB.out)⟩⟩
   case rest =>
    clear HC7
    obtain ⟨kq, x4_6, rfl, HA, HJ6, BK727, HB⟩ := hcut
    cases kq with
    | zero => exact absurd HA.out (by simp [tacticianref02_Value.j4])
    | succ kj6 =>
     have H := HA.out
     clear HA
     simp only [tacticianref02_Value.j4] at H
     by_cases c39 : x4_6 > (a0.size : Int)
     ·rw [if_pos c39] at H
      have c39b0 : decide ((a0.size : Int) < x4_6) = true := decide_eq_true c39
      clear c39
      simp only [Option.some.injEq, Prod.mk.injEq] at H
      obtain ⟨rfl, rfl, rfl, rfl⟩ := H
      have hcz40_0 : wc.cell? ⟨gb727, 0, none⟩ = some (.int .i64 0) := (blk_cell BK727.out 0).trans rfl
      have hcz40_1 : wc.cell? ⟨gb727, 1, none⟩ = some (.int .i64 0) := (blk_cell BK727.out 1).trans rfl
      have hcz40_2 : wc.cell? ⟨gb727, 2, none⟩ = some (.string (⟨#[]⟩ : ByteArray)) := (blk_cell BK727.out 2).trans rfl
      have hfz40_0 := blk_frozen BK727.out 0
      have hfz40_1 := blk_frozen BK727.out 1
      have hfz40_2 := blk_frozen BK727.out 2
      go_wp2
      refine bodyPost_ret (results_ct rfl _ _ gb727 61 #[.int .i64 0, .int .i64 0, .string (⟨#[]⟩ : ByteArray)] (0, 0) _ rfl (by (with_reducible repeat (first | refine zN ?_ _ | refine zD ?_ | refine zA ?_ _)); refine blk_put (cs := #[.int .i64 0, .int .i64 0, .string (⟨#[]⟩ : ByteArray)]) ?_ 2 _ rfl; (with_reducible repeat (first | refine zN ?_ _ | refine zD ?_ | refine zA ?_ _)); refine blk_put (cs := #[.int .i64 0, .int .i64 0, .string (⟨#[]⟩ : ByteArray)]) ?_ 1 _ rfl; (with_reducible repeat (first | refine zN ?_ _ | refine zD ?_ | refine zA ?_ _)); refine blk_put (cs := #[.int .i64 0, .int .i64 0, .string (⟨#[]⟩ : ByteArray)]) ?_ 0 _ rfl; (with_reducible repeat (first | refine zN ?_ _ | refine zD ?_ | refine zA ?_ _)); exact BK727.out) Tryz.underlying61 rfl (by kernel_rfl)) rfl ?_
      exact ⟨by first | rfl | (simp [errW_none, errW_some] <;> rfl) | (simp [*, errW_none, errW_some] <;> rfl), by repeat (first | (with_reducible first | exact HB.out | apply yA | apply yN | apply yD | refine below_set ?_ GE727.out) | exact HB.out)⟩
     ·rw [if_neg c39] at H
      have c39b0 : decide ((a0.size : Int) < x4_6) = false := decide_eq_false c39
      clear c39
      by_cases c41 : 0 ≤ x4_6
      ·rw [if_pos c41] at H
       have c41b0 := eq_true c41
       have c41b1 : decide (0 ≤ x4_6) = true := decide_eq_true c41
       clear c41
       by_cases c42 : x4_6 ≤ (a0.size : Int)
       ·rw [if_pos c42] at H
        have c42b0 := eq_true c42
        have c42b1 : decide (x4_6 ≤ (a0.size : Int)) = true := decide_eq_true c42
        clear c42
        replace H := Option.bind_eq_some_iff.mp H
        obtain ⟨⟨t728, t729, t730, t731⟩, A430, H⟩ := H
        replace H : (if t731 = true then (some (t728, t729, t730, x4_6)) else (some (0, 0, (⟨#[]⟩ : ByteArray), 0))) = some (r1, r2, r3, r4) := H
        have A43 := aM A430
        clear A430
        by_cases c44 : t731 = true
        ·subst c44
         have H1 : (some (t728, t729, t730, x4_6)) = some (r1, r2, r3, r4) := by rw [if_pos rfl] at H; exact H
         clear H
         have H := H1
         clear H1
         simp only [Option.some.injEq, Prod.mk.injEq] at H
         obtain ⟨rfl, rfl, rfl, rfl⟩ := H
         go_wp2_with (first | ((with_reducible refine gate_callee (f := 153) rfl ?_); refine goesL_ (some 94) rfl rfl Tryz.func153 (by kernel_rfl) rfl #[.string (a0.extract 0 (x4_6 : Int).toNat)] rfl (by (try simp only [List.map_toArray, List.map_cons, List.map_nil]); first | done | rfl | (simp only [List.length_drop, List.length_take]; rfl)) ?_; (with_reducible refine (tacticianref01_Parse.calls kj6 (a0.extract 0 (x4_6 : Int).toNat) t728 t729 t730 true _ A43.out).mono ?_); rintro e w45 ⟨rfl, hb⟩; refine ⟨_, rfl, ?_⟩; have n0_ := aM (blk_below (g := gb727) (o := .cells #[.int .i64 0, .int .i64 0, .string (⟨#[]⟩ : ByteArray)] 61 (0, 0)) (by (with_reducible repeat (first | refine zN ?_ _ | refine zD ?_ | refine zA ?_ _)); exact BK727.out) hb); have n1_ := aM (below_step (by repeat (first | (with_reducible first | exact HB.out | apply yA | apply yN | apply yD | refine below_set ?_ GE727.out) | exact HB.out)) hb); clear BK727; clear HB; have BK727 := n0_; have HB := n1_; clear n0_ n1_; (try clear hb); (try clear hb2); (try clear hk); (try clear hi)) | ((with_reducible refine gate_dst (N := 5) rfl ?_); (try (refine gate_guard (by rfl) ?_; dsimp only)); refine box_event ?hg (N := 5) ?hd (cs := #[.int .i64 0, .int .i64 0, .string (⟨#[]⟩ : ByteArray)]) (t := 61) ?hr ?_; (case hd => rfl); (case hg => rfl); (case hr => first | (go_simp; done) | (go_simp; rfl)); intro gb732 hg w46 hbox hb; have n0_ := aM (blk_below (g := gb727) (o := .cells #[.int .i64 0, .int .i64 0, .string (⟨#[]⟩ : ByteArray)] 61 (0, 0)) (by (with_reducible repeat (first | refine zN ?_ _ | refine zD ?_ | refine zA ?_ _)); exact BK727.out) hb); have n1_ := aM (below_step (by repeat (first | (with_reducible first | exact HB.out | apply yA | apply yN | apply yD | refine below_set ?_ GE727.out) | exact HB.out)) hb); have n2_ := aM (hbox); have n3_ := aM ((by rw [hg]; exact (below_size (by repeat (first | (with_reducible first | exact HB.out | apply yA | apply yN | apply yD | refine below_set ?_ GE727.out) | exact HB.out))) : w.heap.size ≤ gb732)); have n4_ := n3_; have n5_ := aM ((by rw [hg]; exact Nat.ne_of_lt (blk_lt (g := gb727) (o := .cells #[.int .i64 0, .int .i64 0, .string (⟨#[]⟩ : ByteArray)] 61 (0, 0)) (by (with_reducible repeat (first | refine zN ?_ _ | refine zD ?_ | refine zA ?_ _)); exact BK727.out)) : gb727 ≠ gb732)); have n6_ := aM n5_.out.symm; clear BK727; clear HB; have BK727 := n0_; have HB := n1_; have BK732 := n2_; have GW732 := n3_; have GE732 := n4_; have NB727_732 := n5_; have NB732_727 := n6_; clear n0_ n1_ n2_ n3_ n4_ n5_ n6_; clear hb hbox hg; have hnb47 := NB732_727.out; have hnc47 := NB727_732.out; have hcz48_0 : w46.cell? ⟨gb732, 0, none⟩ = some (.int .i64 0) := (blk_cell BK732.out 0).trans rfl; have hcz48_1 : w46.cell? ⟨gb732, 1, none⟩ = some (.int .i64 0) := (blk_cell BK732.out 1).trans rfl; have hcz48_2 : w46.cell? ⟨gb732, 2, none⟩ = some (.string (⟨#[]⟩ : ByteArray)) := (blk_cell BK732.out 2).trans rfl; have hfz48_0 := blk_frozen BK732.out 0; have hfz48_1 := blk_frozen BK732.out 1; have hfz48_2 := blk_frozen BK732.out 2; have hcz49_0 : w46.cell? ⟨gb727, 0, none⟩ = some (.int .i64 0) := (blk_cell BK727.out 0).trans rfl; have hcz49_1 : w46.cell? ⟨gb727, 1, none⟩ = some (.int .i64 0) := (blk_cell BK727.out 1).trans rfl; have hcz49_2 : w46.cell? ⟨gb727, 2, none⟩ = some (.string (⟨#[]⟩ : ByteArray)) := (blk_cell BK727.out 2).trans rfl; have hfz49_0 := blk_frozen BK727.out 0; have hfz49_1 := blk_frozen BK727.out 1; have hfz49_2 := blk_frozen BK727.out 2))
         refine bodyPost_ret (results_ct rfl _ _ gb727 61 #[.int .i64 t728, .int .i64 t729, .string t730] (0, 0) _ rfl (by (with_reducible repeat (first | refine zN ?_ _ | refine zD ?_ | refine zA ?_ _)); refine blk_put (cs := #[.int .i64 t728, .int .i64 t729, .string (⟨#[]⟩ : ByteArray)]) ?_ 2 _ rfl; (with_reducible repeat (first | refine zN ?_ _ | refine zD ?_ | refine zA ?_ _)); refine blk_put (cs := #[.int .i64 t728, .int .i64 0, .string (⟨#[]⟩ : ByteArray)]) ?_ 1 _ rfl; (with_reducible repeat (first | refine zN ?_ _ | refine zD ?_ | refine zA ?_ _)); refine blk_put (cs := #[.int .i64 0, .int .i64 0, .string (⟨#[]⟩ : ByteArray)]) ?_ 0 _ rfl; (with_reducible repeat (first | refine zN ?_ _ | refine zD ?_ | refine zA ?_ _)); refine blk_far ?_ NB727_732.out _; (with_reducible repeat (first | refine zN ?_ _ | refine zD ?_ | refine zA ?_ _)); refine blk_far ?_ NB727_732.out _; (with_reducible repeat (first | refine zN ?_ _ | refine zD ?_ | refine zA ?_ _)); refine blk_far ?_ NB727_732.out _; (with_reducible repeat (first | refine zN ?_ _ | refine zD ?_ | refine zA ?_ _)); exact BK727.out) Tryz.underlying61 rfl (by kernel_rfl)) rfl ?_
         exact ⟨by first | rfl | (simp [errW_none, errW_some] <;> rfl) | (simp [*, errW_none, errW_some] <;> rfl), by repeat (first | (with_reducible first | exact HB.out | apply yA | apply yN | apply yD | refine below_set ?_ GE727.out | refine below_set ?_ GE732.out) | exact HB.out)⟩
        ·replace c44 := Bool.eq_false_iff.mpr c44
         subst c44
         have H1 : (some (0, 0, (⟨#[]⟩ : ByteArray), 0)) = some (r1, r2, r3, r4) := by rw [if_neg (show ¬ (false = true) by decide)] at H; exact H
         clear H
         have H := H1
         clear H1
         simp only [Option.some.injEq, Prod.mk.injEq] at H
         obtain ⟨rfl, rfl, rfl, rfl⟩ := H
         go_wp2_with (first | ((with_reducible refine gate_callee (f := 153) rfl ?_); refine goesL_ (some 94) rfl rfl Tryz.func153 (by kernel_rfl) rfl #[.string (a0.extract 0 (x4_6 : Int).toNat)] rfl (by (try simp only [List.map_toArray, List.map_cons, List.map_nil]); first | done | rfl | (simp only [List.length_drop, List.length_take]; rfl)) ?_; (with_reducible refine (tacticianref01_Parse.calls kj6 (a0.extract 0 (x4_6 : Int).toNat) t728 t729 t730 false _ A43.out).mono ?_); rintro e w50 ⟨rfl, hb⟩; refine ⟨_, rfl, ?_⟩; have n0_ := aM (blk_below (g := gb727) (o := .cells #[.int .i64 0, .int .i64 0, .string (⟨#[]⟩ : ByteArray)] 61 (0, 0)) (by (with_reducible repeat (first | refine zN ?_ _ | refine zD ?_ | refine zA ?_ _)); exact BK727.out) hb); have n1_ := aM (below_step (by repeat (first | (with_reducible first | exact HB.out | apply yA | apply yN | apply yD | refine below_set ?_ GE727.out) | exact HB.out)) hb); clear BK727; clear HB; have BK727 := n0_; have HB := n1_; clear n0_ n1_; (try clear hb); (try clear hb2); (try clear hk); (try clear hi)) | ((with_reducible refine gate_dst (N := 5) rfl ?_); (try (refine gate_guard (by rfl) ?_; dsimp only)); refine box_event ?hg (N := 5) ?hd (cs := #[.int .i64 0, .int .i64 0, .string (⟨#[]⟩ : ByteArray)]) (t := 61) ?hr ?_; (case hd => rfl); (case hg => rfl); (case hr => first | (go_simp; done) | (go_simp; rfl)); intro gb732 hg w51 hbox hb; have n0_ := aM (blk_below (g := gb727) (o := .cells #[.int .i64 0, .int .i64 0, .string (⟨#[]⟩ : ByteArray)] 61 (0, 0)) (by (with_reducible repeat (first | refine zN ?_ _ | refine zD ?_ | refine zA ?_ _)); exact BK727.out) hb); have n1_ := aM (below_step (by repeat (first | (with_reducible first | exact HB.out | apply yA | apply yN | apply yD | refine below_set ?_ GE727.out) | exact HB.out)) hb); have n2_ := aM (hbox); have n3_ := aM ((by rw [hg]; exact (below_size (by repeat (first | (with_reducible first | exact HB.out | apply yA | apply yN | apply yD | refine below_set ?_ GE727.out) | exact HB.out))) : w.heap.size ≤ gb732)); have n4_ := n3_; have n5_ := aM ((by rw [hg]; exact Nat.ne_of_lt (blk_lt (g := gb727) (o := .cells #[.int .i64 0, .int .i64 0, .string (⟨#[]⟩ : ByteArray)] 61 (0, 0)) (by (with_reducible repeat (first | refine zN ?_ _ | refine zD ?_ | refine zA ?_ _)); exact BK727.out)) : gb727 ≠ gb732)); have n6_ := aM n5_.out.symm; clear BK727; clear HB; have BK727 := n0_; have HB := n1_; have BK732 := n2_; have GW732 := n3_; have GE732 := n4_; have NB727_732 := n5_; have NB732_727 := n6_; clear n0_ n1_ n2_ n3_ n4_ n5_ n6_; clear hb hbox hg; have hnb52 := NB732_727.out; have hnc52 := NB727_732.out; have hcz53_0 : w51.cell? ⟨gb732, 0, none⟩ = some (.int .i64 0) := (blk_cell BK732.out 0).trans rfl; have hcz53_1 : w51.cell? ⟨gb732, 1, none⟩ = some (.int .i64 0) := (blk_cell BK732.out 1).trans rfl; have hcz53_2 : w51.cell? ⟨gb732, 2, none⟩ = some (.string (⟨#[]⟩ : ByteArray)) := (blk_cell BK732.out 2).trans rfl; have hfz53_0 := blk_frozen BK732.out 0; have hfz53_1 := blk_frozen BK732.out 1; have hfz53_2 := blk_frozen BK732.out 2; have hcz54_0 : w51.cell? ⟨gb727, 0, none⟩ = some (.int .i64 0) := (blk_cell BK727.out 0).trans rfl; have hcz54_1 : w51.cell? ⟨gb727, 1, none⟩ = some (.int .i64 0) := (blk_cell BK727.out 1).trans rfl; have hcz54_2 : w51.cell? ⟨gb727, 2, none⟩ = some (.string (⟨#[]⟩ : ByteArray)) := (blk_cell BK727.out 2).trans rfl; have hfz54_0 := blk_frozen BK727.out 0; have hfz54_1 := blk_frozen BK727.out 1; have hfz54_2 := blk_frozen BK727.out 2))
         refine bodyPost_ret (results_ct rfl _ _ gb727 61 #[.int .i64 0, .int .i64 0, .string (⟨#[]⟩ : ByteArray)] (0, 0) _ rfl (by (with_reducible repeat (first | refine zN ?_ _ | refine zD ?_ | refine zA ?_ _)); refine blk_put (cs := #[.int .i64 0, .int .i64 0, .string (⟨#[]⟩ : ByteArray)]) ?_ 2 _ rfl; (with_reducible repeat (first | refine zN ?_ _ | refine zD ?_ | refine zA ?_ _)); refine blk_put (cs := #[.int .i64 0, .int .i64 0, .string (⟨#[]⟩ : ByteArray)]) ?_ 1 _ rfl; (with_reducible repeat (first | refine zN ?_ _ | refine zD ?_ | refine zA ?_ _)); refine blk_put (cs := #[.int .i64 0, .int .i64 0, .string (⟨#[]⟩ : ByteArray)]) ?_ 0 _ rfl; (with_reducible repeat (first | refine zN ?_ _ | refine zD ?_ | refine zA ?_ _)); refine blk_far ?_ NB727_732.out _; (with_reducible repeat (first | refine zN ?_ _ | refine zD ?_ | refine zA ?_ _)); refine blk_far ?_ NB727_732.out _; (with_reducible repeat (first | refine zN ?_ _ | refine zD ?_ | refine zA ?_ _)); refine blk_far ?_ NB727_732.out _; (with_reducible repeat (first | refine zN ?_ _ | refine zD ?_ | refine zA ?_ _)); exact BK727.out) Tryz.underlying61 rfl (by kernel_rfl)) rfl ?_
         exact ⟨by first | rfl | (simp [errW_none, errW_some] <;> rfl) | (simp [*, errW_none, errW_some] <;> rfl), by repeat (first | (with_reducible first | exact HB.out | apply yA | apply yN | apply yD | refine below_set ?_ GE727.out | refine below_set ?_ GE732.out) | exact HB.out)⟩
       ·rw [if_neg c42] at H
        exact absurd H (by simp)
      ·rw [if_neg c41] at H
       exact absurd H (by simp)
end Go.Proofs.YtmhobbdedmjmnaaGreatDoor.Q
end
section
namespace Go.Proofs.YtmhobbdedmjmnaaGreatDoor
open Go.RowKit Go.Proofs.YtmhobbdedmjmnaaGreatDoor.Q Go.Proofs.YtmhobbdedmjmnaaGreatDoorW.PrintWords Go.Proofs.YtmhobbdedmjmnaaGreatDoorW.PrintLast Go.Proofs.YtmhobbdedmjmnaaGreatDoorW.PrintMore
def endQ (s : ByteArray) : Nat → Nat → Option Nat
  | 0, _ => none
  | d + 1, i => if i < s.size then (if bt s i = 39 then (if i + 1 < s.size ∧ bt s ((i + 1 : Nat) : Int) = 39 then endQ s d (i + 2) else some (i + 1)) else endQ s d (i + 1)) else none
def wordB (x : Int) : Bool := decide (x = 45) || (decide (48 ≤ x) && decide (x ≤ 57)) || (decide (97 ≤ x) && decide (x ≤ 122))
def endW (s : ByteArray) : Nat → Nat → Nat
  | 0, i => i
  | d + 1, i => if i < s.size then (if wordB (bt s i) = true then endW s d (i + 1) else i) else i
def valN (s : ByteArray) (n : Nat) : Int × Int × ByteArray × Int := if (readC (s.extract 0 n)).2.2.2 = true then ((readC (s.extract 0 n)).1, (readC (s.extract 0 n)).2.1, (readC (s.extract 0 n)).2.2.1, (n : Int)) else (0, 0, ⟨#[]⟩, 0)
def valR (s : ByteArray) : Int × Int × ByteArray × Int :=
  if 0 < s.size ∧ bt s 0 = 39 then (match endQ s s.size 1 with | some n => valN s n | none => (0, 0, ⟨#[]⟩, 0)) else valN s (endW s s.size 0)
theorem endQ_le (s : ByteArray) : ∀ (d i n : Nat), endQ s d i = some n → n ≤ s.size ∧ i < n
  | 0, _, _, h => by cases h
  | d + 1, i, n, h => by
    unfold endQ at h
    by_cases h1 : i < s.size
    · rw [if_pos h1] at h
      by_cases h2 : bt s i = 39
      · rw [if_pos h2] at h
        by_cases h3 : i + 1 < s.size ∧ bt s ((i + 1 : Nat) : Int) = 39
        · rw [if_pos h3] at h
          have := endQ_le s d (i + 2) n h
          omega
        · rw [if_neg h3] at h
          have := Option.some.inj h
          omega
      · rw [if_neg h2] at h
        have := endQ_le s d (i + 1) n h
        omega
    · rw [if_neg h1] at h; cases h
theorem endW_le (s : ByteArray) : ∀ (d i : Nat), i ≤ s.size → endW s d i ≤ s.size
  | 0, _, h => h
  | d + 1, i, h => by
    unfold endW
    by_cases h1 : i < s.size
    · rw [if_pos h1]
      by_cases h2 : wordB (bt s i) = true
      · rw [if_pos h2]; exact endW_le s d (i + 1) (by omega)
      · rw [if_neg h2]; exact h
    · rw [if_neg h1]; exact h
theorem rows_fin (s : ByteArray) (hs : s.size ≤ 20000) (n : Nat) (hn : n ≤ s.size) : ((value_Read_s.f (s.extract 0 n)).bind fun p => if p.2.2.2 = true then some (p.1, p.2.1, p.2.2.1, (n : Int)) else some (0, 0, (⟨#[]⟩ : ByteArray), 0)) = some (valN s n) := by
  unfold value_Read_s.f valN
  rw [if_pos (by rw [ByteArray.size_extract]; omega), Option.bind_some]
  by_cases h : (readC (s.extract 0 n)).2.2.2 = true
  · rw [if_pos h, if_pos h]
  · rw [if_neg h, if_neg h]
theorem rows_q (s : ByteArray) (hs : s.size ≤ 20000) : ∀ (d i k : Nat), s.size < i + d → i ≤ s.size → 2 * d < k →
    rows_Value.l0 k s (i : Int) = some (match endQ s d i with | some n => valN s n | none => (0, 0, ⟨#[]⟩, 0)) := by
  intro d
  induction d with
  | zero => intro i k h1 h2 _; omega
  | succ d ih =>
    intro i k h1 h2 hk
    obtain ⟨k, rfl⟩ : ∃ m, k = m + 2 := ⟨k - 2, by omega⟩
    have e1 : wrap64 ((i : Int) + 1) = ((i + 1 : Nat) : Int) := by rw [wrap_small (by omega) (by omega)]; omega
    have e2 : wrap64 ((i : Int) + 2) = ((i + 2 : Nat) : Int) := by rw [wrap_small (by omega) (by omega)]; omega
    unfold endQ
    rw [rows_Value.l0]
    by_cases hi : i < s.size
    · rw [if_pos (by omega), if_pos (by omega), if_pos hi, e1]
      by_cases h3 : bt s i = 39
      · rw [if_pos h3, if_pos h3]
        by_cases h4 : i + 1 < s.size
        · rw [if_pos (by omega), if_pos (by omega), rows_Value.j1, e1, e2]
          by_cases h5 : bt s ((i + 1 : Nat) : Int) = 39
          · rw [if_pos (by simpa using h5), if_pos ⟨h4, h5⟩]
            exact ih (i + 2) k (by omega) (by omega) (by omega)
          · rw [if_neg (by simpa using h5), if_pos (by omega), if_pos (by omega), Int.toNat_natCast, if_neg (fun h => h5 h.2)]
            exact rows_fin s hs (i + 1) (by omega)
        · rw [if_neg (by omega), rows_Value.j1, e1, if_neg (by decide), if_pos (by omega), if_pos (by omega), Int.toNat_natCast, if_neg (fun h => h4 h.1)]
          exact rows_fin s hs (i + 1) (by omega)
      · rw [if_neg h3, if_neg h3]
        exact ih (i + 1) (k + 1) (by omega) (by omega) (by omega)
    · rw [if_neg (by omega), if_neg hi]
theorem wordB_iff (x : Int) : wordB x = true ↔ x = 45 ∨ (48 ≤ x ∧ x ≤ 57) ∨ (97 ≤ x ∧ x ≤ 122) := by
  unfold wordB
  simp only [Bool.or_eq_true, Bool.and_eq_true, decide_eq_true_eq]
  omega
theorem rows_w (s : ByteArray) (hs : s.size ≤ 20000) : ∀ (d i k : Nat), s.size ≤ i + d → i ≤ s.size → d < k →
    rows_Value.l1 k s (i : Int) = some (valN s (endW s d i)) := by
  intro d
  induction d with
  | zero =>
    intro i k h1 h2 hk
    obtain ⟨k, rfl⟩ : ∃ m, k = m + 1 := ⟨k - 1, by omega⟩
    rw [rows_Value.l1, if_neg (by omega), if_pos (by omega), if_pos (by omega), Int.toNat_natCast]
    exact rows_fin s hs i h2
  | succ d ih =>
    intro i k h1 h2 hk
    obtain ⟨k, rfl⟩ : ∃ m, k = m + 1 := ⟨k - 1, by omega⟩
    have e1 : wrap64 ((i : Int) + 1) = ((i + 1 : Nat) : Int) := by rw [wrap_small (by omega) (by omega)]; omega
    have hfin := rows_fin s hs i h2
    unfold endW
    rw [rows_Value.l1]
    by_cases hi : i < s.size
    · rw [if_pos (by omega), if_pos (by omega), if_pos hi, e1, if_pos (show (i : Int) ≤ (s.size : Int) by omega), Int.toNat_natCast]
      by_cases a1 : bt s i = 45
      · rw [if_pos a1]
        exact ih (i + 1) k (by omega) (by omega) (by omega) |>.trans (by rw [if_pos ((wordB_iff _).2 (.inl a1))])
      · rw [if_neg a1]
        by_cases a2 : bt s i ≥ 48
        · rw [if_pos a2]
          by_cases a3 : bt s i ≤ 57
          · rw [if_pos a3]
            exact ih (i + 1) k (by omega) (by omega) (by omega) |>.trans (by rw [if_pos ((wordB_iff _).2 (.inr (.inl ⟨a2, a3⟩)))])
          · rw [if_neg a3]
            by_cases a4 : bt s i ≥ 97
            · rw [if_pos a4]
              by_cases a5 : bt s i ≤ 122
              · rw [if_pos a5]
                exact ih (i + 1) k (by omega) (by omega) (by omega) |>.trans (by rw [if_pos ((wordB_iff _).2 (.inr (.inr ⟨a4, a5⟩)))])
              · rw [if_neg a5]
                exact hfin.trans (by rw [if_neg (fun h => by have := (wordB_iff _).1 h; omega)])
            · rw [if_neg a4]
              exact hfin.trans (by rw [if_neg (fun h => by have := (wordB_iff _).1 h; omega)])
        · rw [if_neg a2]
          by_cases a4 : bt s i ≥ 97
          · rw [if_pos a4]
            by_cases a5 : bt s i ≤ 122
            · rw [if_pos a5]
              exact ih (i + 1) k (by omega) (by omega) (by omega) |>.trans (by rw [if_pos ((wordB_iff _).2 (.inr (.inr ⟨a4, a5⟩)))])
            · rw [if_neg a5]
              exact hfin.trans (by rw [if_neg (fun h => by have := (wordB_iff _).1 h; omega)])
          · rw [if_neg a4]
            exact hfin.trans (by rw [if_neg (fun h => by have := (wordB_iff _).1 h; omega)])
    · rw [if_neg (by omega), if_pos (by omega), if_pos (by omega), Int.toNat_natCast, if_neg hi]
      exact hfin
theorem hasPrefix1 (s : ByteArray) (b : UInt8) : strings_HasPrefix.f s (⟨#[b]⟩ : ByteArray) = some (decide (0 < s.size) && decide (bt s 0 = (b.toNat : Int))) := by
  obtain ⟨⟨d⟩⟩ := s
  have hb : (⟨#[b]⟩ : ByteArray).size = 1 := rfl
  unfold strings_HasPrefix.f stringslite_HasPrefix.f
  rw [hb]
  cases d with
  | nil => rfl
  | cons x r =>
    have hz : (⟨⟨x :: r⟩⟩ : ByteArray).size = r.length + 1 := rfl
    have he : ((⟨⟨x :: r⟩⟩ : ByteArray).extract 0 1).toList = [x] := by
      rw [ByteArray.toList_eq]
      simp [ByteArray.data_extract]
    have h0 : bt (⟨⟨x :: r⟩⟩ : ByteArray) 0 = (x.toNat : Int) := rfl
    rw [if_pos (by omega), if_pos (by omega), if_pos (by omega), Option.bind_some, show ((1 : Nat) : Int).toNat = 1 from rfl, he, h0, decide_eq_true (show 0 < (⟨⟨x :: r⟩⟩ : ByteArray).size by omega), Bool.true_and, ByteArray.toList_eq]
    congr 1
    by_cases h : x = b
    · subst h; simp
    · have : ¬ (x.toNat : Int) = (b.toNat : Int) := fun e => h (UInt8.toNat_inj.1 (by omega))
      rw [decide_eq_false this]
      simp [h]
theorem rowsValue (s : ByteArray) (hs : s.size ≤ 20000) (k : Nat) (hk : 2 * s.size + 4 < k) : rows_Value.f k s = some (valR s) := by
  unfold rows_Value.f valR
  rw [hasPrefix1, Option.bind_some]
  by_cases h : 0 < s.size ∧ bt s 0 = 39
  · rw [if_pos h, if_pos (by rw [decide_eq_true h.1, Bool.true_and]; exact decide_eq_true h.2)]
    exact rows_q s hs s.size 1 k (by omega) (by omega) (by omega)
  · rw [if_neg h, if_neg (fun e => h (by rw [Bool.and_eq_true, decide_eq_true_eq, decide_eq_true_eq] at e; exact e))]
    exact rows_w s hs s.size 0 k (by omega) (by omega) (by omega)
theorem ref_fin (s : ByteArray) (hs : s.size ≤ 5000) (n k : Nat) (hn : n ≤ s.size) (hk : 15001 < k) : tacticianref02_Value.j4 k s (n : Int) = some (valN s n) := by
  obtain ⟨k, rfl⟩ : ∃ m, k = m + 1 := ⟨k - 1, by omega⟩
  obtain ⟨a, b, c, ok, h1, h2⟩ := parse_readC (s.extract 0 n) (by rw [ByteArray.size_extract]; omega) k (by omega)
  rw [tacticianref02_Value.j4, if_neg (by omega), if_pos (by omega), if_pos (by omega), Int.toNat_natCast, h1, Option.bind_some]
  unfold valN
  rw [h2]
  cases ok with
  | true => rfl
  | false => rfl
theorem ref_over (s : ByteArray) (n : Int) (k : Nat) (hn : (s.size : Int) < n) (hk : 0 < k) : tacticianref02_Value.j4 k s n = some (0, 0, ⟨#[]⟩, 0) := by
  obtain ⟨k, rfl⟩ : ∃ m, k = m + 1 := ⟨k - 1, by omega⟩
  rw [tacticianref02_Value.j4, if_pos (by omega)]
theorem ref_q (s : ByteArray) (hs : s.size ≤ 5000) : ∀ (d i k : Nat), s.size < i + d → i ≤ s.size → 2 * d + 15010 < k →
    tacticianref02_Value.l0 k s (i : Int) = some (match endQ s d i with | some n => valN s n | none => (0, 0, ⟨#[]⟩, 0)) := by
  intro d
  induction d with
  | zero => intro i k h1 h2 _; omega
  | succ d ih =>
    intro i k h1 h2 hk
    obtain ⟨k, rfl⟩ : ∃ m, k = m + 2 := ⟨k - 2, by omega⟩
    have e1 : wrap64 ((i : Int) + 1) = ((i + 1 : Nat) : Int) := by rw [wrap_small (by omega) (by omega)]; omega
    have e2 : wrap64 (((i + 1 : Nat) : Int) + 1) = ((i + 2 : Nat) : Int) := by rw [wrap_small (by omega) (by omega)]; omega
    unfold endQ
    rw [tacticianref02_Value.l0]
    by_cases hi : i < s.size
    · rw [if_pos (by omega), if_pos (by omega), if_pos hi, e1]
      by_cases h3 : bt s i = 39
      · rw [if_pos h3, if_pos h3]
        by_cases h4 : i + 1 < s.size
        · rw [if_pos (by omega), if_pos (by omega), tacticianref02_Value.j2, e1, e2]
          by_cases h5 : bt s ((i + 1 : Nat) : Int) = 39
          · rw [if_pos (by simpa using h5), if_pos (by omega), if_pos (by omega), if_pos h3, if_pos ⟨h4, h5⟩]
            exact ih (i + 2) k (by omega) (by omega) (by omega)
          · rw [if_neg (by simpa using h5), if_neg (fun h => h5 h.2)]
            exact ref_fin s hs (i + 1) k (by omega) (by omega)
        · rw [if_neg (by omega), tacticianref02_Value.j2, e1, if_neg (by decide), if_neg (fun h => h4 h.1)]
          exact ref_fin s hs (i + 1) k (by omega) (by omega)
      · rw [if_neg h3, if_neg h3, tacticianref02_Value.j2, if_pos rfl, if_pos (by omega), if_pos (by omega), if_neg h3, e1]
        exact ih (i + 1) k (by omega) (by omega) (by omega)
    · rw [if_neg (by omega), if_neg hi, tacticianref02_Value.j2, if_neg (by decide), e1]
      exact ref_over s _ k (by omega) (by omega)
theorem ref_w (s : ByteArray) (hs : s.size ≤ 5000) : ∀ (d i k : Nat), s.size ≤ i + d → i ≤ s.size → d + 15010 < k →
    tacticianref02_Value.l1 k s (i : Int) = some (valN s (endW s d i)) := by
  intro d
  induction d with
  | zero =>
    intro i k h1 h2 hk
    obtain ⟨k, rfl⟩ : ∃ m, k = m + 1 := ⟨k - 1, by omega⟩
    rw [tacticianref02_Value.l1, if_neg (by omega)]
    exact ref_fin s hs i k h2 (by omega)
  | succ d ih =>
    intro i k h1 h2 hk
    obtain ⟨k, rfl⟩ : ∃ m, k = m + 1 := ⟨k - 1, by omega⟩
    have e1 : wrap64 ((i : Int) + 1) = ((i + 1 : Nat) : Int) := by rw [wrap_small (by omega) (by omega)]; omega
    have hfin := ref_fin s hs i k h2 (by omega)
    unfold endW
    rw [tacticianref02_Value.l1]
    by_cases hi : i < s.size
    · rw [if_pos (by omega), if_pos (by omega), if_pos hi, e1]
      by_cases a1 : bt s i = 45
      · rw [if_pos a1]
        exact ih (i + 1) k (by omega) (by omega) (by omega) |>.trans (by rw [if_pos ((wordB_iff _).2 (.inl a1))])
      · rw [if_neg a1]
        by_cases a2 : bt s i ≥ 48
        · rw [if_pos a2]
          by_cases a3 : bt s i ≤ 57
          · rw [if_pos a3]
            exact ih (i + 1) k (by omega) (by omega) (by omega) |>.trans (by rw [if_pos ((wordB_iff _).2 (.inr (.inl ⟨a2, a3⟩)))])
          · rw [if_neg a3]
            by_cases a4 : bt s i ≥ 97
            · rw [if_pos a4]
              by_cases a5 : bt s i ≤ 122
              · rw [if_pos a5]
                exact ih (i + 1) k (by omega) (by omega) (by omega) |>.trans (by rw [if_pos ((wordB_iff _).2 (.inr (.inr ⟨a4, a5⟩)))])
              · rw [if_neg a5]
                exact hfin.trans (by rw [if_neg (fun h => by have := (wordB_iff _).1 h; omega)])
            · rw [if_neg a4]
              exact hfin.trans (by rw [if_neg (fun h => by have := (wordB_iff _).1 h; omega)])
        · rw [if_neg a2]
          by_cases a4 : bt s i ≥ 97
          · rw [if_pos a4]
            by_cases a5 : bt s i ≤ 122
            · rw [if_pos a5]
              exact ih (i + 1) k (by omega) (by omega) (by omega) |>.trans (by rw [if_pos ((wordB_iff _).2 (.inr (.inr ⟨a4, a5⟩)))])
            · rw [if_neg a5]
              exact hfin.trans (by rw [if_neg (fun h => by have := (wordB_iff _).1 h; omega)])
          · rw [if_neg a4]
            exact hfin.trans (by rw [if_neg (fun h => by have := (wordB_iff _).1 h; omega)])
    · rw [if_neg (by omega), if_neg hi]
      exact hfin
theorem refValue (s : ByteArray) (hs : s.size ≤ 5000) (k : Nat) (hk : 26000 < k) : tacticianref02_Value.f k s = some (valR s) := by
  obtain ⟨k, rfl⟩ : ∃ m, k = m + 1 := ⟨k - 1, by omega⟩
  unfold tacticianref02_Value.f valR
  by_cases h0 : 0 < s.size
  · rw [if_pos (by omega), if_pos (by omega), tacticianref02_Value.j0]
    by_cases h : bt s 0 = 39
    · rw [if_pos (by simpa using h), if_pos ⟨h0, h⟩]
      exact ref_q s hs s.size 1 k (by omega) (by omega) (by omega)
    · rw [if_neg (by simpa using h), if_neg (fun e => h e.2)]
      exact ref_w s hs s.size 0 k (by omega) (by omega) (by omega)
  · rw [if_neg (by omega), tacticianref02_Value.j0, if_neg (by decide), if_neg (fun e => h0 e.1)]
    exact ref_w s hs s.size 0 k (by omega) (by omega) (by omega)
end Go.Proofs.YtmhobbdedmjmnaaGreatDoor
end
section
namespace Go.Proofs.YtmhobbdedmjmnaaGreatDoor.Q
open Go.RowKit Go.Proofs.YtmhobbdedmjmnaaGreatDoorW.PrintWords Go.Proofs.YtmhobbdedmjmnaaGreatDoorW.PrintLast Go.Proofs.YtmhobbdedmjmnaaGreatDoorW.PrintMore
attribute [local go_sem] max2_int min2_int max_two min_two max_three min_three max_four min_four
set_option linter.unusedVariables false
set_option linter.unusedSimpArgs false
def rows_Row.l0 : Nat → ByteArray → Int → List (S61) → Option ((List (S61)) × Int)
  | 0, _, _, _ => none
  | k + 1, x0, x4, x5 => if 0 ≤ x4 then (if x4 ≤ (x0.size : Int) then ((rows_Value.f k (x0.extract (x4 : Int).toNat x0.size)).bind fun bt700 => (if bt700.2.2.2 = 0 then (some (([] : List (S61)), 0)) else (if x5.length < 4398046511104 then ((some (x5 ++ [(⟨bt700.1, bt700.2.1, bt700.2.2.1⟩ : S61)] : List (S61))).bind fun y705 => (if 0 ≤ (wrap64 (x4 + bt700.2.2.2)) then (if (wrap64 (x4 + bt700.2.2.2)) ≤ (x0.size : Int) then ((strings_HasPrefix.f (x0.extract ((wrap64 (x4 + bt700.2.2.2)) : Int).toNat x0.size) (⟨#[41]⟩ : ByteArray)).bind fun t708 => (if t708 = true then (some (y705, wrap64 ((wrap64 (x4 + bt700.2.2.2)) + 1))) else ((strings_HasPrefix.f (x0.extract ((wrap64 (x4 + bt700.2.2.2)) : Int).toNat x0.size) (⟨#[44, 32]⟩ : ByteArray)).bind fun t709 => (if t709 = true then (rows_Row.l0 k x0 (wrap64 ((wrap64 (x4 + bt700.2.2.2)) + 2)) y705) else (some (([] : List (S61)), 0)))))) else (none)) else (none))) else (none)))) else (none)) else (none)
def rows_Row.f (k : Nat) (a0 : ByteArray) : Option ((List (S61)) × Int) := (strings_HasPrefix.f a0 (⟨#[40]⟩ : ByteArray)).bind fun t698 => (if t698 = true then (if 1 ≤ (a0.size : Int) then ((strings_HasPrefix.f (a0.extract 1 a0.size) (⟨#[41]⟩ : ByteArray)).bind fun t699 => (if t699 = true then (some (([] : List (S61)), 2)) else (rows_Row.l0 k a0 1 ([] : List (S61))))) else (none)) else (some (([] : List (S61)), 0)))
set_option maxHeartbeats 8000000 in
set_option maxRecDepth 100000 in
theorem rows_Row.calls (k : Nat) (a0 : ByteArray) (r1 : List (S61)) (r2 : Int) (w : World) (hL_ : LaidE w) (h : rows_Row.f k a0 = some (r1, r2)) :
    Calls Tryz.prog 83 #[.string a0] w fun e w' => ∃ v0_ : Value, e = .returned (.tuple #[v0_, .int .i64 r2]) ∧ Kd.R k61 61 w' w.heap.size (fun _ => True) v0_ r1 ∧ Below w.heap.size w w' := by
  have hu61 := Tryz.underlying61
  have HLD := aM hL_
  clear hL_
  have HB := aM (Below.refl w.heap.size w)
  have H : ((strings_HasPrefix.f a0 (⟨#[40]⟩ : ByteArray)).bind fun t698 => (if t698 = true then (if 1 ≤ (a0.size : Int) then ((strings_HasPrefix.f (a0.extract 1 a0.size) (⟨#[41]⟩ : ByteArray)).bind fun t699 => (if t699 = true then (some (([] : List (S61)), 2)) else (rows_Row.l0 k a0 1 ([] : List (S61))))) else (none)) else (some (([] : List (S61)), 0)))) = some (r1, r2) := h
  clear h
  replace H := Option.bind_eq_some_iff.mp H
  obtain ⟨t698, A20, H⟩ := H
  replace H : (if t698 = true then (if 1 ≤ (a0.size : Int) then ((strings_HasPrefix.f (a0.extract 1 a0.size) (⟨#[41]⟩ : ByteArray)).bind fun t699 => (if t699 = true then (some (([] : List (S61)), 2)) else (rows_Row.l0 k a0 1 ([] : List (S61))))) else (none)) else (some (([] : List (S61)), 0))) = some (r1, r2) := H
  have A2 := aM A20
  clear A20
  by_cases c3 : t698 = true
  · subst c3
    have H1 : (if 1 ≤ (a0.size : Int) then ((strings_HasPrefix.f (a0.extract 1 a0.size) (⟨#[41]⟩ : ByteArray)).bind fun t699 => (if t699 = true then (some (([] : List (S61)), 2)) else (rows_Row.l0 k a0 1 ([] : List (S61))))) else (none)) = some (r1, r2) := by rw [if_pos rfl] at H; exact H
    clear H
    have H := H1
    clear H1
    by_cases c4 : 1 ≤ (a0.size : Int)
    · rw [if_pos c4] at H
      have c4b0 := eq_true c4
      have c4b1 : decide (1 ≤ (a0.size : Int)) = true := decide_eq_true c4
      clear c4
      replace H := Option.bind_eq_some_iff.mp H
      obtain ⟨t699, A50, H⟩ := H
      replace H : (if t699 = true then (some (([] : List (S61)), 2)) else (rows_Row.l0 k a0 1 ([] : List (S61)))) = some (r1, r2) := H
      have A5 := aM A50
      clear A50
      by_cases c6 : t699 = true
      · subst c6
        have H1 : (some (([] : List (S61)), 2)) = some (r1, r2) := by rw [if_pos rfl] at H; exact H
        clear H
        have H := H1
        clear H1
        simp only [Option.some.injEq, Prod.mk.injEq] at H
        obtain ⟨rfl, rfl⟩ := H
        go_enter Tryz.func83, Tryz.ntmps83
        go_wp2_with (first | ((with_reducible refine gate_callee (f := 84) rfl ?_); refine goesL_ (some 9) rfl rfl Tryz.func84 (by kernel_rfl) rfl #[.string a0, .string (⟨#[40]⟩ : ByteArray)] rfl (by (try simp only [List.map_toArray, List.map_cons, List.map_nil]); first | done | rfl | (simp only [List.length_drop, List.length_take]; rfl)) ?_; (with_reducible refine (strings_HasPrefix.calls a0 (⟨#[40]⟩ : ByteArray) true _ A2.out).mono ?_); rintro e w' ⟨rfl, ⟨nd, rfl⟩⟩; refine ⟨_, rfl, ?_⟩) | ((with_reducible refine gate_callee (f := 84) rfl ?_); refine goesL_ (some 14) rfl rfl Tryz.func84 (by kernel_rfl) rfl #[.string (a0.extract 1 a0.size), .string (⟨#[41]⟩ : ByteArray)] rfl (by (try simp only [List.map_toArray, List.map_cons, List.map_nil]); first | done | rfl | (simp only [List.length_drop, List.length_take]; rfl)) ?_; (with_reducible refine (strings_HasPrefix.calls (a0.extract 1 a0.size) (⟨#[41]⟩ : ByteArray) true _ A5.out).mono ?_); rintro e w' ⟨rfl, ⟨nd, rfl⟩⟩; refine ⟨_, rfl, ?_⟩))
        go_ret2
        exact ⟨_, by first | rfl | (simp [errW_none, errW_some] <;> rfl) | (simp [*, errW_none, errW_some] <;> rfl), by first | exact Kd.R_nil _ _ _ _ _ | exact Kd.N_nil _ _ _ _ _ | exact Kd.V_nil _ _ _ _ _ | exact Kd.Q_nil _ _ _ _ _ | exact Kd.S_nil _ _ _ _ _, by repeat (first | (with_reducible first | exact HB.out | apply yA | apply yN | apply yD) | exact HB.out)⟩
      · replace c6 := Bool.eq_false_iff.mpr c6
        subst c6
        have H1 : (rows_Row.l0 k a0 1 ([] : List (S61))) = some (r1, r2) := by rw [if_neg (show ¬ (false = true) by decide)] at H; exact H
        clear H
        have H := H1
        clear H1
        have H' := aM H
        clear H
        go_enter Tryz.func83, Tryz.ntmps83
        go_wp2_with (first | ((with_reducible refine gate_callee (f := 84) rfl ?_); refine goesL_ (some 9) rfl rfl Tryz.func84 (by kernel_rfl) rfl #[.string a0, .string (⟨#[40]⟩ : ByteArray)] rfl (by (try simp only [List.map_toArray, List.map_cons, List.map_nil]); first | done | rfl | (simp only [List.length_drop, List.length_take]; rfl)) ?_; (with_reducible refine (strings_HasPrefix.calls a0 (⟨#[40]⟩ : ByteArray) true _ A2.out).mono ?_); rintro e w' ⟨rfl, ⟨nd, rfl⟩⟩; refine ⟨_, rfl, ?_⟩) | ((with_reducible refine gate_callee (f := 84) rfl ?_); refine goesL_ (some 14) rfl rfl Tryz.func84 (by kernel_rfl) rfl #[.string (a0.extract 1 a0.size), .string (⟨#[41]⟩ : ByteArray)] rfl (by (try simp only [List.map_toArray, List.map_cons, List.map_nil]); first | done | rfl | (simp only [List.length_drop, List.length_take]; rfl)) ?_; (with_reducible refine (strings_HasPrefix.calls (a0.extract 1 a0.size) (⟨#[41]⟩ : ByteArray) false _ A5.out).mono ?_); rintro e w' ⟨rfl, ⟨nd, rfl⟩⟩; refine ⟨_, rfl, ?_⟩))
        go_loopg [4, 5] k (fun kq v4 v5 w' => ∃ (x4_1 : Int) (x5_1 : List (S61)), v4 = .int .i64 x4_1 ∧ Aside0 (rows_Row.l0 kq a0 x4_1 x5_1 = some (r1, r2)) ∧ Aside0 (kq ≤ k) ∧ Aside0 (Kd.R k61 61 w' w.heap.size (fun _ => True) v5 x5_1) ∧ Aside0 (Below w.heap.size w w'))
        case atStart => exact ⟨(1), (([] : List (S61))), (by first | rfl | (simp; done) | (simp [*]; done)), H', ⟨Nat.le_refl _⟩, ⟨by first | exact Kd.R_nil _ _ _ _ _ | exact Kd.N_nil _ _ _ _ _ | exact Kd.V_nil _ _ _ _ _ | exact Kd.Q_nil _ _ _ _ _ | exact Kd.S_nil _ _ _ _ _⟩, ⟨by repeat (first | (with_reducible first | exact HB.out | apply yA | apply yN | apply yD) | exact HB.out)⟩⟩
        case round =>
          clear H'
          try clear c3
          try clear c4
          try clear c4b0
          try clear c4b1
          try clear c6
          obtain ⟨x4_1, x5_1, rfl, HA, HK1, HO_5, HB⟩ := hrel
          cases gk with
          | zero => exact absurd HA.out (by simp [rows_Row.l0])
          | succ k1 =>
            have H := HA.out
            clear HA
            simp only [rows_Row.l0] at H
            by_cases c7 : 0 ≤ x4_1
            · rw [if_pos c7] at H
              have c7b0 := eq_true c7
              have c7b1 : decide (0 ≤ x4_1) = true := decide_eq_true c7
              clear c7
              by_cases c8 : x4_1 ≤ (a0.size : Int)
              · rw [if_pos c8] at H
                have c8b0 := eq_true c8
                have c8b1 : decide (x4_1 ≤ (a0.size : Int)) = true := decide_eq_true c8
                clear c8
                replace H := Option.bind_eq_some_iff.mp H
                obtain ⟨⟨t700, t701, t702, t703⟩, A90, H⟩ := H
                replace H : (if t703 = 0 then (some (([] : List (S61)), 0)) else (if x5_1.length < 4398046511104 then ((some (x5_1 ++ [(⟨t700, t701, t702⟩ : S61)] : List (S61))).bind fun y705 => (if 0 ≤ (wrap64 (x4_1 + t703)) then (if (wrap64 (x4_1 + t703)) ≤ (a0.size : Int) then ((strings_HasPrefix.f (a0.extract ((wrap64 (x4_1 + t703)) : Int).toNat a0.size) (⟨#[41]⟩ : ByteArray)).bind fun t708 => (if t708 = true then (some (y705, wrap64 ((wrap64 (x4_1 + t703)) + 1))) else ((strings_HasPrefix.f (a0.extract ((wrap64 (x4_1 + t703)) : Int).toNat a0.size) (⟨#[44, 32]⟩ : ByteArray)).bind fun t709 => (if t709 = true then (rows_Row.l0 k1 a0 (wrap64 ((wrap64 (x4_1 + t703)) + 2)) y705) else (some (([] : List (S61)), 0)))))) else (none)) else (none))) else (none))) = some (r1, r2) := H
                have A9 := aM A90
                clear A90
                by_cases c10 : t703 = 0
                · rw [if_pos c10] at H
                  have c10b0 : (t703 == 0) = true := beq_iff_eq.mpr c10
                  have c10b1 : (t703 != 0) = false := bne_eq_false_iff_eq.mpr c10
                  clear c10
                  simp only [Option.some.injEq, Prod.mk.injEq] at H
                  obtain ⟨rfl, rfl⟩ := H
                  go_wp2_with (first | ((with_reducible refine gate_callee (f := 120) rfl ?_); refine goesL_ (some 19) rfl rfl Tryz.func120 (by kernel_rfl) rfl #[.string (a0.extract (x4_1 : Int).toNat a0.size)] rfl (by (try simp only [List.map_toArray, List.map_cons, List.map_nil]); first | done | rfl | (simp only [List.length_drop, List.length_take]; rfl)) ?_; (with_reducible refine (rows_Value.calls k1 (a0.extract (x4_1 : Int).toNat a0.size) t700 t701 t702 t703 _ ?side1 A9.out).mono ?_); (case side1 => exact LaidE.below HLD.out (by repeat (first | (with_reducible first | exact HB.out | apply yA | apply yN | apply yD) | exact HB.out))); rintro e w11 ⟨rfl, hb⟩; refine ⟨_, rfl, ?_⟩; have n0_ := aM (Kd.R_below (by (with_reducible repeat (first | apply Kd.R_alloc | apply Kd.R_drewN | apply Kd.R_drew)); exact HO_5.out) hb); have n1_ := aM (below_step (by repeat (first | (with_reducible first | exact HB.out | apply yA | apply yN | apply yD) | exact HB.out)) hb); clear HO_5; clear HB; have HO_5 := n0_; have HB := n1_; clear n0_ n1_; (try clear hb); (try clear hb2); (try clear hk); (try clear hi)) | ((with_reducible refine gate_dst (N := 6) rfl ?_); refine box_event ?hg (N := 6) ?hd (cs := #[.int .i64 0, .int .i64 0, .string (⟨#[]⟩ : ByteArray)]) (t := 61) ?hr ?_; (case hd => rfl); (case hg => rfl); (case hr => first | (go_simp; done) | (go_simp; rfl)); intro gb704 hg w12 hbox hb; have n0_ := aM (Kd.R_below (Kd.R_elderB (by (with_reducible repeat (first | apply Kd.R_alloc | apply Kd.R_drewN | apply Kd.R_drew)); exact HO_5.out) gb704 (Nat.le_of_eq hg.symm)) hb); have n1_ := aM (below_step (by repeat (first | (with_reducible first | exact HB.out | apply yA | apply yN | apply yD) | exact HB.out)) hb); have n2_ := aM (hbox); have n3_ := aM ((by rw [hg]; exact (below_size (by repeat (first | (with_reducible first | exact HB.out | apply yA | apply yN | apply yD) | exact HB.out))) : w.heap.size ≤ gb704)); have n4_ := n3_; clear HO_5; clear HB; have HO_5 := n0_; have HB := n1_; have BK704 := n2_; have GW704 := n3_; have GE704 := n4_; clear n0_ n1_ n2_ n3_ n4_; clear hb hbox hg; have hcz13_0 : w12.cell? ⟨gb704, 0, none⟩ = some (.int .i64 0) := (blk_cell BK704.out 0).trans rfl; have hcz13_1 : w12.cell? ⟨gb704, 1, none⟩ = some (.int .i64 0) := (blk_cell BK704.out 1).trans rfl; have hcz13_2 : w12.cell? ⟨gb704, 2, none⟩ = some (.string (⟨#[]⟩ : ByteArray)) := (blk_cell BK704.out 2).trans rfl; have hfz13_0 := blk_frozen BK704.out 0; have hfz13_1 := blk_frozen BK704.out 1; have hfz13_2 := blk_frozen BK704.out 2))
                  go_ret2
                  exact ⟨_, by first | rfl | (simp [errW_none, errW_some] <;> rfl) | (simp [*, errW_none, errW_some] <;> rfl), by first | exact Kd.R_nil _ _ _ _ _ | exact Kd.N_nil _ _ _ _ _ | exact Kd.V_nil _ _ _ _ _ | exact Kd.Q_nil _ _ _ _ _ | exact Kd.S_nil _ _ _ _ _, by repeat (first | (with_reducible first | exact HB.out | apply yA | apply yN | apply yD | refine below_set ?_ GE704.out) | exact HB.out)⟩
                · rw [if_neg c10] at H
                  have c10b0 : (t703 == 0) = false := beq_eq_false_iff_ne.mpr c10
                  have c10b1 : (t703 != 0) = true := bne_iff_ne.mpr c10
                  by_cases c14 : x5_1.length < 4398046511104
                  · rw [if_pos c14] at H
                    have LMc14 := aM c14
                    clear c14
                    obtain ⟨y705, hy705⟩ : ∃ y_ : List (S61), y_ = (x5_1 ++ [(⟨t700, t701, t702⟩ : S61)]) := ⟨_, rfl⟩
                    replace H : (if 0 ≤ (wrap64 (x4_1 + t703)) then (if (wrap64 (x4_1 + t703)) ≤ (a0.size : Int) then ((strings_HasPrefix.f (a0.extract ((wrap64 (x4_1 + t703)) : Int).toNat a0.size) (⟨#[41]⟩ : ByteArray)).bind fun t708 => (if t708 = true then (some (y705, wrap64 ((wrap64 (x4_1 + t703)) + 1))) else ((strings_HasPrefix.f (a0.extract ((wrap64 (x4_1 + t703)) : Int).toNat a0.size) (⟨#[44, 32]⟩ : ByteArray)).bind fun t709 => (if t709 = true then (rows_Row.l0 k1 a0 (wrap64 ((wrap64 (x4_1 + t703)) + 2)) y705) else (some (([] : List (S61)), 0)))))) else (none)) else (none)) = some (r1, r2) := by first | (rw [hy705]; with_reducible exact H) | (have H2_ := (Option.bind_some _ _).symm.trans H; rw [hy705]; with_reducible exact H2_) | (have H2_ := (Option.bind_some _ _).symm.trans H; with_reducible exact H2_) | with_reducible exact H | (rw [hy705]; exact H) | exact H
                    have Ny705 := aM hy705
                    clear hy705
                    obtain ⟨ji15, hji15⟩ : ∃ j_ : Int, (wrap64 (x4_1 + t703)) = j_ := ⟨_, rfl⟩
                    replace H : (if 0 ≤ (ji15) then (if (ji15) ≤ (a0.size : Int) then ((strings_HasPrefix.f (a0.extract ((ji15) : Int).toNat a0.size) (⟨#[41]⟩ : ByteArray)).bind fun t708 => (if t708 = true then (some (y705, wrap64 ((ji15) + 1))) else ((strings_HasPrefix.f (a0.extract ((ji15) : Int).toNat a0.size) (⟨#[44, 32]⟩ : ByteArray)).bind fun t709 => (if t709 = true then (rows_Row.l0 k1 a0 (wrap64 ((ji15) + 2)) y705) else (some (([] : List (S61)), 0)))))) else (none)) else (none)) = some (r1, r2) := by first | (rw [hji15] at H; exact H) | (simp only [hji15] at H ⊢; exact H)
                    (try rw [hji15] at A9)
                    have hji15w : (IntKind.i64.wrap (x4_1 + t703)) = ji15 := (i64_w _).trans hji15
                    by_cases c16 : 0 ≤ (ji15)
                    · rw [if_pos c16] at H
                      have c16b0 := eq_true c16
                      have c16b1 : decide (0 ≤ (ji15)) = true := decide_eq_true c16
                      clear c16
                      by_cases c17 : (ji15) ≤ (a0.size : Int)
                      · rw [if_pos c17] at H
                        have c17b0 := eq_true c17
                        have c17b1 : decide ((ji15) ≤ (a0.size : Int)) = true := decide_eq_true c17
                        clear c17
                        replace H := Option.bind_eq_some_iff.mp H
                        obtain ⟨t708, A180, H⟩ := H
                        replace H : (if t708 = true then (some (y705, wrap64 ((ji15) + 1))) else ((strings_HasPrefix.f (a0.extract ((ji15) : Int).toNat a0.size) (⟨#[44, 32]⟩ : ByteArray)).bind fun t709 => (if t709 = true then (rows_Row.l0 k1 a0 (wrap64 ((ji15) + 2)) y705) else (some (([] : List (S61)), 0))))) = some (r1, r2) := H
                        have A18 := aM A180
                        clear A180
                        by_cases c19 : t708 = true
                        · subst c19
                          have H1 : (some (y705, wrap64 ((ji15) + 1))) = some (r1, r2) := by rw [if_pos rfl] at H; exact H
                          clear H
                          have H := H1
                          clear H1
                          simp only [Option.some.injEq, Prod.mk.injEq] at H
                          obtain ⟨rfl, rfl⟩ := H
                          go_wp2_with (first | ((with_reducible refine gate_callee (f := 120) rfl ?_); refine goesL_ (some 19) rfl rfl Tryz.func120 (by kernel_rfl) rfl #[.string (a0.extract (x4_1 : Int).toNat a0.size)] rfl (by (try simp only [List.map_toArray, List.map_cons, List.map_nil]); first | done | rfl | (simp only [List.length_drop, List.length_take]; rfl)) ?_; (with_reducible refine (rows_Value.calls k1 (a0.extract (x4_1 : Int).toNat a0.size) t700 t701 t702 t703 _ ?side1 A9.out).mono ?_); (case side1 => exact LaidE.below HLD.out (by repeat (first | (with_reducible first | exact HB.out | apply yA | apply yN | apply yD) | exact HB.out))); rintro e w20 ⟨rfl, hb⟩; refine ⟨_, rfl, ?_⟩; have n0_ := aM (Kd.R_below (by (with_reducible repeat (first | apply Kd.R_alloc | apply Kd.R_drewN | apply Kd.R_drew)); exact HO_5.out) hb); have n1_ := aM (below_step (by repeat (first | (with_reducible first | exact HB.out | apply yA | apply yN | apply yD) | exact HB.out)) hb); clear HO_5; clear HB; have HO_5 := n0_; have HB := n1_; clear n0_ n1_; (try clear hb); (try clear hb2); (try clear hk); (try clear hi)) | ((with_reducible refine gate_dst (N := 6) rfl ?_); refine box_event ?hg (N := 6) ?hd (cs := #[.int .i64 0, .int .i64 0, .string (⟨#[]⟩ : ByteArray)]) (t := 61) ?hr ?_; (case hd => rfl); (case hg => rfl); (case hr => first | (go_simp; done) | (go_simp; rfl)); intro gb704 hg w21 hbox hb; have n0_ := aM (Kd.R_below (Kd.R_elderB (by (with_reducible repeat (first | apply Kd.R_alloc | apply Kd.R_drewN | apply Kd.R_drew)); exact HO_5.out) gb704 (Nat.le_of_eq hg.symm)) hb); have n1_ := aM (below_step (by repeat (first | (with_reducible first | exact HB.out | apply yA | apply yN | apply yD) | exact HB.out)) hb); have n2_ := aM (hbox); have n3_ := aM ((by rw [hg]; exact (below_size (by repeat (first | (with_reducible first | exact HB.out | apply yA | apply yN | apply yD) | exact HB.out))) : w.heap.size ≤ gb704)); have n4_ := n3_; clear HO_5; clear HB; have HO_5 := n0_; have HB := n1_; have BK704 := n2_; have GW704 := n3_; have GE704 := n4_; clear n0_ n1_ n2_ n3_ n4_; clear hb hbox hg; have hcz22_0 : w21.cell? ⟨gb704, 0, none⟩ = some (.int .i64 0) := (blk_cell BK704.out 0).trans rfl; have hcz22_1 : w21.cell? ⟨gb704, 1, none⟩ = some (.int .i64 0) := (blk_cell BK704.out 1).trans rfl; have hcz22_2 : w21.cell? ⟨gb704, 2, none⟩ = some (.string (⟨#[]⟩ : ByteArray)) := (blk_cell BK704.out 2).trans rfl; have hfz22_0 := blk_frozen BK704.out 0; have hfz22_1 := blk_frozen BK704.out 1; have hfz22_2 := blk_frozen BK704.out 2) | ((with_reducible refine gate_builtin (b := .append) (xs := #[.tmp 24, .tmp 26]) rfl ?_); at_builtin; refine Kd.R_append k61 (w0 := w) w.heap.size rfl (.tmp 24) (.tmp 26) 40 61 (.agg #[(.int .i64 0), (.int .i64 0), (.string ⟨#[]⟩)]) 32 rfl Tryz.underlying40 info61 rfl (by decide) (by omega) u5 x5_1 (⟨t700, t701, t702⟩ : S61) [.int .i64 t700, .int .i64 t701, .string t702] (fun k_ => k_ ≠ gb704) (fun _ => False) rfl (by first | (go_simp; done) | (go_simp; rfl)) ?aP (fun _ hk => hk.elim) ?aF ?aO ?aB ?aS ?aL ?_; (case aP => exact k61_mkM _ _ _ (⟨t700, t701, t702⟩ : S61)); (case aB => exact (by repeat (first | (with_reducible first | exact HB.out | apply yA | apply yN | apply yD | refine below_set ?_ GE704.out) | exact HB.out))); (case aF => exact (fun k_ hk => Kd.freshB (g := gb704) (o := .cells #[.int .i64 t700, .int .i64 t701, .string t702] 61 (0, 0)) (by (with_reducible repeat (first | refine zN ?_ _ | refine zD ?_ | refine zA ?_ _)); refine blk_put (cs := #[.int .i64 t700, .int .i64 t701, .string (⟨#[]⟩ : ByteArray)]) ?_ 2 _ rfl; (with_reducible repeat (first | refine zN ?_ _ | refine zD ?_ | refine zA ?_ _)); refine blk_put (cs := #[.int .i64 t700, .int .i64 0, .string (⟨#[]⟩ : ByteArray)]) ?_ 1 _ rfl; (with_reducible repeat (first | refine zN ?_ _ | refine zD ?_ | refine zA ?_ _)); refine blk_put (cs := #[.int .i64 0, .int .i64 0, .string (⟨#[]⟩ : ByteArray)]) ?_ 0 _ rfl; (with_reducible repeat (first | refine zN ?_ _ | refine zD ?_ | refine zA ?_ _)); exact BK704.out) k_ hk)); (case aO => exact (by (with_reducible repeat (first | apply Kd.R_alloc | apply Kd.R_drewN | apply Kd.R_drew)); exact Kd.R_mono (Kd.R_far (p := ⟨gb704, 2, none⟩) (Kd.R_far (p := ⟨gb704, 1, none⟩) (Kd.R_far (p := ⟨gb704, 0, none⟩) (Kd.R_mono HO_5.out (fun k_ hk => (⟨hk, hk.2⟩ : _ ∧ k_ ≠ gb704))) (fun _ hk => hk.2) (.int .i64 t700)) (fun _ hk => hk.2) (.int .i64 t701)) (fun _ hk => hk.2) (.string t702)) (fun _ hk => hk.1.2))); (case aS => exact (below_size (by repeat (first | (with_reducible first | exact HB.out | apply yA | apply yN | apply yD | refine below_set ?_ GE704.out) | exact HB.out)))); (case aL => have := LMc14.out; omega); intro v706 w23 ho hb hg hat; rw [← Ny705.out] at ho; have n0_ := aM (blk_grown (g := gb704) (o := .cells #[.int .i64 t700, .int .i64 t701, .string t702] 61 (0, 0)) (by (with_reducible repeat (first | refine zN ?_ _ | refine zD ?_ | refine zA ?_ _)); refine blk_put (cs := #[.int .i64 t700, .int .i64 t701, .string (⟨#[]⟩ : ByteArray)]) ?_ 2 _ rfl; (with_reducible repeat (first | refine zN ?_ _ | refine zD ?_ | refine zA ?_ _)); refine blk_put (cs := #[.int .i64 t700, .int .i64 0, .string (⟨#[]⟩ : ByteArray)]) ?_ 1 _ rfl; (with_reducible repeat (first | refine zN ?_ _ | refine zD ?_ | refine zA ?_ _)); refine blk_put (cs := #[.int .i64 0, .int .i64 0, .string (⟨#[]⟩ : ByteArray)]) ?_ 0 _ rfl; (with_reducible repeat (first | refine zN ?_ _ | refine zD ?_ | refine zA ?_ _)); exact BK704.out) hg (Kd.R_away HO_5.out (fun _ hk => hk.2))); have n1_ := aM (hb); have n2_ := aM (ho); clear BK704; clear HB; clear HO_5; have BK704 := n0_; have HB := n1_; have HO707 := n2_; clear n0_ n1_ n2_; clear ho hb hg hat) | ((with_reducible refine gate_callee (f := 84) rfl ?_); refine goesL_ (some 35) rfl rfl Tryz.func84 (by kernel_rfl) rfl #[.string (a0.extract ((ji15) : Int).toNat a0.size), .string (⟨#[41]⟩ : ByteArray)] rfl (by (try simp only [List.map_toArray, List.map_cons, List.map_nil]); first | done | (simp only [hji15]; rfl) | rfl | (simp only [List.length_drop, List.length_take]; rfl)) ?_; (with_reducible refine (strings_HasPrefix.calls (a0.extract ((ji15) : Int).toNat a0.size) (⟨#[41]⟩ : ByteArray) true _ A18.out).mono ?_); rintro e w' ⟨rfl, ⟨nd, rfl⟩⟩; refine ⟨_, rfl, ?_⟩))
                          go_ret2
                          exact ⟨_, by first | rfl | (simp [errW_none, errW_some] <;> rfl) | (simp only [← hji15]; first | rfl | (simp [errW_none, errW_some] <;> rfl)) | (simp [*, errW_none, errW_some] <;> rfl), by (with_reducible repeat (first | apply Kd.R_alloc | apply Kd.R_drewN | apply Kd.R_drew)); exact Kd.R_mono HO707.out (fun _ hk => trivial), by repeat (first | (with_reducible first | exact HB.out | apply yA | apply yN | apply yD | refine below_set ?_ GE704.out) | exact HB.out)⟩
                        · replace c19 := Bool.eq_false_iff.mpr c19
                          subst c19
                          have H1 : ((strings_HasPrefix.f (a0.extract ((ji15) : Int).toNat a0.size) (⟨#[44, 32]⟩ : ByteArray)).bind fun t709 => (if t709 = true then (rows_Row.l0 k1 a0 (wrap64 ((ji15) + 2)) y705) else (some (([] : List (S61)), 0)))) = some (r1, r2) := by rw [if_neg (show ¬ (false = true) by decide)] at H; exact H
                          clear H
                          have H := H1
                          clear H1
                          have c24b0 := eq_true (of_decide_eq_true (by first | (with_reducible assumption) | assumption) : 0 ≤ (ji15))
                          have c25b0 := eq_true (of_decide_eq_true (by first | (with_reducible assumption) | assumption) : (ji15) ≤ (a0.size : Int))
                          replace H := Option.bind_eq_some_iff.mp H
                          obtain ⟨t709, A260, H⟩ := H
                          replace H : (if t709 = true then (rows_Row.l0 k1 a0 (wrap64 ((ji15) + 2)) y705) else (some (([] : List (S61)), 0))) = some (r1, r2) := H
                          have A26 := aM A260
                          clear A260
                          by_cases c27 : t709 = true
                          · subst c27
                            have H1 : (rows_Row.l0 k1 a0 (wrap64 ((ji15) + 2)) y705) = some (r1, r2) := by rw [if_pos rfl] at H; exact H
                            clear H
                            have H := H1
                            clear H1
                            have H' := aM H
                            clear H
                            go_wp2_with (first | ((with_reducible refine gate_callee (f := 120) rfl ?_); refine goesL_ (some 19) rfl rfl Tryz.func120 (by kernel_rfl) rfl #[.string (a0.extract (x4_1 : Int).toNat a0.size)] rfl (by (try simp only [List.map_toArray, List.map_cons, List.map_nil]); first | done | rfl | (simp only [List.length_drop, List.length_take]; rfl)) ?_; (with_reducible refine (rows_Value.calls k1 (a0.extract (x4_1 : Int).toNat a0.size) t700 t701 t702 t703 _ ?side1 A9.out).mono ?_); (case side1 => exact LaidE.below HLD.out (by repeat (first | (with_reducible first | exact HB.out | apply yA | apply yN | apply yD) | exact HB.out))); rintro e w28 ⟨rfl, hb⟩; refine ⟨_, rfl, ?_⟩; have n0_ := aM (Kd.R_below (by (with_reducible repeat (first | apply Kd.R_alloc | apply Kd.R_drewN | apply Kd.R_drew)); exact HO_5.out) hb); have n1_ := aM (below_step (by repeat (first | (with_reducible first | exact HB.out | apply yA | apply yN | apply yD) | exact HB.out)) hb); clear HO_5; clear HB; have HO_5 := n0_; have HB := n1_; clear n0_ n1_; (try clear hb); (try clear hb2); (try clear hk); (try clear hi)) | ((with_reducible refine gate_dst (N := 6) rfl ?_); refine box_event ?hg (N := 6) ?hd (cs := #[.int .i64 0, .int .i64 0, .string (⟨#[]⟩ : ByteArray)]) (t := 61) ?hr ?_; (case hd => rfl); (case hg => rfl); (case hr => first | (go_simp; done) | (go_simp; rfl)); intro gb704 hg w29 hbox hb; have n0_ := aM (Kd.R_below (Kd.R_elderB (by (with_reducible repeat (first | apply Kd.R_alloc | apply Kd.R_drewN | apply Kd.R_drew)); exact HO_5.out) gb704 (Nat.le_of_eq hg.symm)) hb); have n1_ := aM (below_step (by repeat (first | (with_reducible first | exact HB.out | apply yA | apply yN | apply yD) | exact HB.out)) hb); have n2_ := aM (hbox); have n3_ := aM ((by rw [hg]; exact (below_size (by repeat (first | (with_reducible first | exact HB.out | apply yA | apply yN | apply yD) | exact HB.out))) : w.heap.size ≤ gb704)); have n4_ := n3_; clear HO_5; clear HB; have HO_5 := n0_; have HB := n1_; have BK704 := n2_; have GW704 := n3_; have GE704 := n4_; clear n0_ n1_ n2_ n3_ n4_; clear hb hbox hg; have hcz30_0 : w29.cell? ⟨gb704, 0, none⟩ = some (.int .i64 0) := (blk_cell BK704.out 0).trans rfl; have hcz30_1 : w29.cell? ⟨gb704, 1, none⟩ = some (.int .i64 0) := (blk_cell BK704.out 1).trans rfl; have hcz30_2 : w29.cell? ⟨gb704, 2, none⟩ = some (.string (⟨#[]⟩ : ByteArray)) := (blk_cell BK704.out 2).trans rfl; have hfz30_0 := blk_frozen BK704.out 0; have hfz30_1 := blk_frozen BK704.out 1; have hfz30_2 := blk_frozen BK704.out 2) | ((with_reducible refine gate_builtin (b := .append) (xs := #[.tmp 24, .tmp 26]) rfl ?_); at_builtin; refine Kd.R_append k61 (w0 := w) w.heap.size rfl (.tmp 24) (.tmp 26) 40 61 (.agg #[(.int .i64 0), (.int .i64 0), (.string ⟨#[]⟩)]) 32 rfl Tryz.underlying40 info61 rfl (by decide) (by omega) u5 x5_1 (⟨t700, t701, t702⟩ : S61) [.int .i64 t700, .int .i64 t701, .string t702] (fun k_ => k_ ≠ gb704) (fun _ => False) rfl (by first | (go_simp; done) | (go_simp; rfl)) ?aP (fun _ hk => hk.elim) ?aF ?aO ?aB ?aS ?aL ?_; (case aP => exact k61_mkM _ _ _ (⟨t700, t701, t702⟩ : S61)); (case aB => exact (by repeat (first | (with_reducible first | exact HB.out | apply yA | apply yN | apply yD | refine below_set ?_ GE704.out) | exact HB.out))); (case aF => exact (fun k_ hk => Kd.freshB (g := gb704) (o := .cells #[.int .i64 t700, .int .i64 t701, .string t702] 61 (0, 0)) (by (with_reducible repeat (first | refine zN ?_ _ | refine zD ?_ | refine zA ?_ _)); refine blk_put (cs := #[.int .i64 t700, .int .i64 t701, .string (⟨#[]⟩ : ByteArray)]) ?_ 2 _ rfl; (with_reducible repeat (first | refine zN ?_ _ | refine zD ?_ | refine zA ?_ _)); refine blk_put (cs := #[.int .i64 t700, .int .i64 0, .string (⟨#[]⟩ : ByteArray)]) ?_ 1 _ rfl; (with_reducible repeat (first | refine zN ?_ _ | refine zD ?_ | refine zA ?_ _)); refine blk_put (cs := #[.int .i64 0, .int .i64 0, .string (⟨#[]⟩ : ByteArray)]) ?_ 0 _ rfl; (with_reducible repeat (first | refine zN ?_ _ | refine zD ?_ | refine zA ?_ _)); exact BK704.out) k_ hk)); (case aO => exact (by (with_reducible repeat (first | apply Kd.R_alloc | apply Kd.R_drewN | apply Kd.R_drew)); exact Kd.R_mono (Kd.R_far (p := ⟨gb704, 2, none⟩) (Kd.R_far (p := ⟨gb704, 1, none⟩) (Kd.R_far (p := ⟨gb704, 0, none⟩) (Kd.R_mono HO_5.out (fun k_ hk => (⟨hk, hk.2⟩ : _ ∧ k_ ≠ gb704))) (fun _ hk => hk.2) (.int .i64 t700)) (fun _ hk => hk.2) (.int .i64 t701)) (fun _ hk => hk.2) (.string t702)) (fun _ hk => hk.1.2))); (case aS => exact (below_size (by repeat (first | (with_reducible first | exact HB.out | apply yA | apply yN | apply yD | refine below_set ?_ GE704.out) | exact HB.out)))); (case aL => have := LMc14.out; omega); intro v706 w31 ho hb hg hat; rw [← Ny705.out] at ho; have n0_ := aM (blk_grown (g := gb704) (o := .cells #[.int .i64 t700, .int .i64 t701, .string t702] 61 (0, 0)) (by (with_reducible repeat (first | refine zN ?_ _ | refine zD ?_ | refine zA ?_ _)); refine blk_put (cs := #[.int .i64 t700, .int .i64 t701, .string (⟨#[]⟩ : ByteArray)]) ?_ 2 _ rfl; (with_reducible repeat (first | refine zN ?_ _ | refine zD ?_ | refine zA ?_ _)); refine blk_put (cs := #[.int .i64 t700, .int .i64 0, .string (⟨#[]⟩ : ByteArray)]) ?_ 1 _ rfl; (with_reducible repeat (first | refine zN ?_ _ | refine zD ?_ | refine zA ?_ _)); refine blk_put (cs := #[.int .i64 0, .int .i64 0, .string (⟨#[]⟩ : ByteArray)]) ?_ 0 _ rfl; (with_reducible repeat (first | refine zN ?_ _ | refine zD ?_ | refine zA ?_ _)); exact BK704.out) hg (Kd.R_away HO_5.out (fun _ hk => hk.2))); have n1_ := aM (hb); have n2_ := aM (ho); clear BK704; clear HB; clear HO_5; have BK704 := n0_; have HB := n1_; have HO707 := n2_; clear n0_ n1_ n2_; clear ho hb hg hat) | ((with_reducible refine gate_callee (f := 84) rfl ?_); refine goesL_ (some 35) rfl rfl Tryz.func84 (by kernel_rfl) rfl #[.string (a0.extract ((ji15) : Int).toNat a0.size), .string (⟨#[41]⟩ : ByteArray)] rfl (by (try simp only [List.map_toArray, List.map_cons, List.map_nil]); first | done | (simp only [hji15]; rfl) | rfl | (simp only [List.length_drop, List.length_take]; rfl)) ?_; (with_reducible refine (strings_HasPrefix.calls (a0.extract ((ji15) : Int).toNat a0.size) (⟨#[41]⟩ : ByteArray) false _ A18.out).mono ?_); rintro e w' ⟨rfl, ⟨nd, rfl⟩⟩; refine ⟨_, rfl, ?_⟩) | ((with_reducible refine gate_callee (f := 84) rfl ?_); refine goesL_ (some 43) rfl rfl Tryz.func84 (by kernel_rfl) rfl #[.string (a0.extract ((ji15) : Int).toNat a0.size), .string (⟨#[44, 32]⟩ : ByteArray)] rfl (by (try simp only [List.map_toArray, List.map_cons, List.map_nil]); first | done | (simp only [hji15]; rfl) | rfl | (simp only [List.length_drop, List.length_take]; rfl)) ?_; (with_reducible refine (strings_HasPrefix.calls (a0.extract ((ji15) : Int).toNat a0.size) (⟨#[44, 32]⟩ : ByteArray) true _ A26.out).mono ?_); rintro e w' ⟨rfl, ⟨nd, rfl⟩⟩; refine ⟨_, rfl, ?_⟩))
                            go_roundg k1
                            case measure => have := HK1.out; omega
                            case rel => exact ⟨(wrap64 ((ji15) + 2)), (y705), (by first | rfl | (simp; done) | (simp only [← hji15] <;> (first | rfl | simp)) | (simp [*]; done)), (by first | exact H' | (rw [hji15]; exact H') | (simp only [hji15]; exact H')), ⟨by have := HK1.out; omega⟩, ⟨by (with_reducible repeat (first | apply Kd.R_alloc | apply Kd.R_drewN | apply Kd.R_drew)); exact Kd.R_mono HO707.out (fun _ hk => trivial)⟩, ⟨by repeat (first | (with_reducible first | exact HB.out | apply yA | apply yN | apply yD | refine below_set ?_ GE704.out) | exact HB.out)⟩⟩
                          · replace c27 := Bool.eq_false_iff.mpr c27
                            subst c27
                            have H1 : (some (([] : List (S61)), 0)) = some (r1, r2) := by rw [if_neg (show ¬ (false = true) by decide)] at H; exact H
                            clear H
                            have H := H1
                            clear H1
                            simp only [Option.some.injEq, Prod.mk.injEq] at H
                            obtain ⟨rfl, rfl⟩ := H
                            go_wp2_with (first | ((with_reducible refine gate_callee (f := 120) rfl ?_); refine goesL_ (some 19) rfl rfl Tryz.func120 (by kernel_rfl) rfl #[.string (a0.extract (x4_1 : Int).toNat a0.size)] rfl (by (try simp only [List.map_toArray, List.map_cons, List.map_nil]); first | done | rfl | (simp only [List.length_drop, List.length_take]; rfl)) ?_; (with_reducible refine (rows_Value.calls k1 (a0.extract (x4_1 : Int).toNat a0.size) t700 t701 t702 t703 _ ?side1 A9.out).mono ?_); (case side1 => exact LaidE.below HLD.out (by repeat (first | (with_reducible first | exact HB.out | apply yA | apply yN | apply yD) | exact HB.out))); rintro e w32 ⟨rfl, hb⟩; refine ⟨_, rfl, ?_⟩; have n0_ := aM (Kd.R_below (by (with_reducible repeat (first | apply Kd.R_alloc | apply Kd.R_drewN | apply Kd.R_drew)); exact HO_5.out) hb); have n1_ := aM (below_step (by repeat (first | (with_reducible first | exact HB.out | apply yA | apply yN | apply yD) | exact HB.out)) hb); clear HO_5; clear HB; have HO_5 := n0_; have HB := n1_; clear n0_ n1_; (try clear hb); (try clear hb2); (try clear hk); (try clear hi)) | ((with_reducible refine gate_dst (N := 6) rfl ?_); refine box_event ?hg (N := 6) ?hd (cs := #[.int .i64 0, .int .i64 0, .string (⟨#[]⟩ : ByteArray)]) (t := 61) ?hr ?_; (case hd => rfl); (case hg => rfl); (case hr => first | (go_simp; done) | (go_simp; rfl)); intro gb704 hg w33 hbox hb; have n0_ := aM (Kd.R_below (Kd.R_elderB (by (with_reducible repeat (first | apply Kd.R_alloc | apply Kd.R_drewN | apply Kd.R_drew)); exact HO_5.out) gb704 (Nat.le_of_eq hg.symm)) hb); have n1_ := aM (below_step (by repeat (first | (with_reducible first | exact HB.out | apply yA | apply yN | apply yD) | exact HB.out)) hb); have n2_ := aM (hbox); have n3_ := aM ((by rw [hg]; exact (below_size (by repeat (first | (with_reducible first | exact HB.out | apply yA | apply yN | apply yD) | exact HB.out))) : w.heap.size ≤ gb704)); have n4_ := n3_; clear HO_5; clear HB; have HO_5 := n0_; have HB := n1_; have BK704 := n2_; have GW704 := n3_; have GE704 := n4_; clear n0_ n1_ n2_ n3_ n4_; clear hb hbox hg; have hcz34_0 : w33.cell? ⟨gb704, 0, none⟩ = some (.int .i64 0) := (blk_cell BK704.out 0).trans rfl; have hcz34_1 : w33.cell? ⟨gb704, 1, none⟩ = some (.int .i64 0) := (blk_cell BK704.out 1).trans rfl; have hcz34_2 : w33.cell? ⟨gb704, 2, none⟩ = some (.string (⟨#[]⟩ : ByteArray)) := (blk_cell BK704.out 2).trans rfl; have hfz34_0 := blk_frozen BK704.out 0; have hfz34_1 := blk_frozen BK704.out 1; have hfz34_2 := blk_frozen BK704.out 2) | ((with_reducible refine gate_builtin (b := .append) (xs := #[.tmp 24, .tmp 26]) rfl ?_); at_builtin; refine Kd.R_append k61 (w0 := w) w.heap.size rfl (.tmp 24) (.tmp 26) 40 61 (.agg #[(.int .i64 0), (.int .i64 0), (.string ⟨#[]⟩)]) 32 rfl Tryz.underlying40 info61 rfl (by decide) (by omega) u5 x5_1 (⟨t700, t701, t702⟩ : S61) [.int .i64 t700, .int .i64 t701, .string t702] (fun k_ => k_ ≠ gb704) (fun _ => False) rfl (by first | (go_simp; done) | (go_simp; rfl)) ?aP (fun _ hk => hk.elim) ?aF ?aO ?aB ?aS ?aL ?_; (case aP => exact k61_mkM _ _ _ (⟨t700, t701, t702⟩ : S61)); (case aB => exact (by repeat (first | (with_reducible first | exact HB.out | apply yA | apply yN | apply yD | refine below_set ?_ GE704.out) | exact HB.out))); (case aF => exact (fun k_ hk => Kd.freshB (g := gb704) (o := .cells #[.int .i64 t700, .int .i64 t701, .string t702] 61 (0, 0)) (by (with_reducible repeat (first | refine zN ?_ _ | refine zD ?_ | refine zA ?_ _)); refine blk_put (cs := #[.int .i64 t700, .int .i64 t701, .string (⟨#[]⟩ : ByteArray)]) ?_ 2 _ rfl; (with_reducible repeat (first | refine zN ?_ _ | refine zD ?_ | refine zA ?_ _)); refine blk_put (cs := #[.int .i64 t700, .int .i64 0, .string (⟨#[]⟩ : ByteArray)]) ?_ 1 _ rfl; (with_reducible repeat (first | refine zN ?_ _ | refine zD ?_ | refine zA ?_ _)); refine blk_put (cs := #[.int .i64 0, .int .i64 0, .string (⟨#[]⟩ : ByteArray)]) ?_ 0 _ rfl; (with_reducible repeat (first | refine zN ?_ _ | refine zD ?_ | refine zA ?_ _)); exact BK704.out) k_ hk)); (case aO => exact (by (with_reducible repeat (first | apply Kd.R_alloc | apply Kd.R_drewN | apply Kd.R_drew)); exact Kd.R_mono (Kd.R_far (p := ⟨gb704, 2, none⟩) (Kd.R_far (p := ⟨gb704, 1, none⟩) (Kd.R_far (p := ⟨gb704, 0, none⟩) (Kd.R_mono HO_5.out (fun k_ hk => (⟨hk, hk.2⟩ : _ ∧ k_ ≠ gb704))) (fun _ hk => hk.2) (.int .i64 t700)) (fun _ hk => hk.2) (.int .i64 t701)) (fun _ hk => hk.2) (.string t702)) (fun _ hk => hk.1.2))); (case aS => exact (below_size (by repeat (first | (with_reducible first | exact HB.out | apply yA | apply yN | apply yD | refine below_set ?_ GE704.out) | exact HB.out)))); (case aL => have := LMc14.out; omega); intro v706 w35 ho hb hg hat; rw [← Ny705.out] at ho; have n0_ := aM (blk_grown (g := gb704) (o := .cells #[.int .i64 t700, .int .i64 t701, .string t702] 61 (0, 0)) (by (with_reducible repeat (first | refine zN ?_ _ | refine zD ?_ | refine zA ?_ _)); refine blk_put (cs := #[.int .i64 t700, .int .i64 t701, .string (⟨#[]⟩ : ByteArray)]) ?_ 2 _ rfl; (with_reducible repeat (first | refine zN ?_ _ | refine zD ?_ | refine zA ?_ _)); refine blk_put (cs := #[.int .i64 t700, .int .i64 0, .string (⟨#[]⟩ : ByteArray)]) ?_ 1 _ rfl; (with_reducible repeat (first | refine zN ?_ _ | refine zD ?_ | refine zA ?_ _)); refine blk_put (cs := #[.int .i64 0, .int .i64 0, .string (⟨#[]⟩ : ByteArray)]) ?_ 0 _ rfl; (with_reducible repeat (first | refine zN ?_ _ | refine zD ?_ | refine zA ?_ _)); exact BK704.out) hg (Kd.R_away HO_5.out (fun _ hk => hk.2))); have n1_ := aM (hb); have n2_ := aM (ho); clear BK704; clear HB; clear HO_5; have BK704 := n0_; have HB := n1_; have HO707 := n2_; clear n0_ n1_ n2_; clear ho hb hg hat) | ((with_reducible refine gate_callee (f := 84) rfl ?_); refine goesL_ (some 35) rfl rfl Tryz.func84 (by kernel_rfl) rfl #[.string (a0.extract ((ji15) : Int).toNat a0.size), .string (⟨#[41]⟩ : ByteArray)] rfl (by (try simp only [List.map_toArray, List.map_cons, List.map_nil]); first | done | (simp only [hji15]; rfl) | rfl | (simp only [List.length_drop, List.length_take]; rfl)) ?_; (with_reducible refine (strings_HasPrefix.calls (a0.extract ((ji15) : Int).toNat a0.size) (⟨#[41]⟩ : ByteArray) false _ A18.out).mono ?_); rintro e w' ⟨rfl, ⟨nd, rfl⟩⟩; refine ⟨_, rfl, ?_⟩) | ((with_reducible refine gate_callee (f := 84) rfl ?_); refine goesL_ (some 43) rfl rfl Tryz.func84 (by kernel_rfl) rfl #[.string (a0.extract ((ji15) : Int).toNat a0.size), .string (⟨#[44, 32]⟩ : ByteArray)] rfl (by (try simp only [List.map_toArray, List.map_cons, List.map_nil]); first | done | (simp only [hji15]; rfl) | rfl | (simp only [List.length_drop, List.length_take]; rfl)) ?_; (with_reducible refine (strings_HasPrefix.calls (a0.extract ((ji15) : Int).toNat a0.size) (⟨#[44, 32]⟩ : ByteArray) false _ A26.out).mono ?_); rintro e w' ⟨rfl, ⟨nd, rfl⟩⟩; refine ⟨_, rfl, ?_⟩))
                            go_ret2
                            exact ⟨_, by first | rfl | (simp [errW_none, errW_some] <;> rfl) | (simp only [← hji15]; first | rfl | (simp [errW_none, errW_some] <;> rfl)) | (simp [*, errW_none, errW_some] <;> rfl), by first | exact Kd.R_nil _ _ _ _ _ | exact Kd.N_nil _ _ _ _ _ | exact Kd.V_nil _ _ _ _ _ | exact Kd.Q_nil _ _ _ _ _ | exact Kd.S_nil _ _ _ _ _, by repeat (first | (with_reducible first | exact HB.out | apply yA | apply yN | apply yD | refine below_set ?_ GE704.out) | exact HB.out)⟩
                      · rw [if_neg c17] at H
                        exact absurd H (by simp)
                    · rw [if_neg c16] at H
                      exact absurd H (by simp)
                  · rw [if_neg c14] at H
                    exact absurd H (by simp)
              · rw [if_neg c8] at H
                exact absurd H (by simp)
            · rw [if_neg c7] at H
              exact absurd H (by simp)
    · rw [if_neg c4] at H
      exact absurd H (by simp)
  · replace c3 := Bool.eq_false_iff.mpr c3
    subst c3
    have H1 : (some (([] : List (S61)), 0)) = some (r1, r2) := by rw [if_neg (show ¬ (false = true) by decide)] at H; exact H
    clear H
    have H := H1
    clear H1
    simp only [Option.some.injEq, Prod.mk.injEq] at H
    obtain ⟨rfl, rfl⟩ := H
    go_enter Tryz.func83, Tryz.ntmps83
    go_wp2_with (first | ((with_reducible refine gate_callee (f := 84) rfl ?_); refine goesL_ (some 9) rfl rfl Tryz.func84 (by kernel_rfl) rfl #[.string a0, .string (⟨#[40]⟩ : ByteArray)] rfl (by (try simp only [List.map_toArray, List.map_cons, List.map_nil]); first | done | rfl | (simp only [List.length_drop, List.length_take]; rfl)) ?_; (with_reducible refine (strings_HasPrefix.calls a0 (⟨#[40]⟩ : ByteArray) false _ A2.out).mono ?_); rintro e w' ⟨rfl, ⟨nd, rfl⟩⟩; refine ⟨_, rfl, ?_⟩))
    go_ret2
    exact ⟨_, by first | rfl | (simp [errW_none, errW_some] <;> rfl) | (simp [*, errW_none, errW_some] <;> rfl), by first | exact Kd.R_nil _ _ _ _ _ | exact Kd.N_nil _ _ _ _ _ | exact Kd.V_nil _ _ _ _ _ | exact Kd.Q_nil _ _ _ _ _ | exact Kd.S_nil _ _ _ _ _, by repeat (first | (with_reducible first | exact HB.out | apply yA | apply yN | apply yD) | exact HB.out)⟩
def rows_Parse.l0 : Nat → ByteArray → List (List V) → Option (List (List V) × Int)
  | 0, _, _ => none
  | k + 1, s, out => if s.size = 0 then (if out.length ≤ 100000 then (if smallE [out] = 0 then some (out, 0) else some ([], 20)) else none) else (rows_Row.f k s).bind fun p => if p.2 = 0 then some ([], 20) else if 0 ≤ p.2 ∧ p.2 ≤ (s.size : Int) then (strings_HasPrefix.f (s.extract p.2.toNat s.size) (⟨#[10]⟩ : ByteArray)).bind fun t => if t = true then (if out.length ≤ 100000 ∧ p.2 < (s.size : Int) then rows_Parse.l0 k (s.extract (p.2 + 1).toNat s.size) (out ++ [p.1]) else none) else some ([], 20) else none
def rows_Parse.f (a0 : ByteArray) : Option (List (List V) × Int) := if 20000 < a0.size then some ([], 2) else rows_Parse.l0 (a0.size + 100000) a0 []
set_option maxRecDepth 100000 in
set_option maxHeartbeats 4000000 in
theorem rows_Parse.calls (a0 : ByteArray) (r1 : List (List V)) (r2 : Int) (w : World) (hL_ : LaidE w) (h : rows_Parse.f a0 = some (r1, r2)) :
  Calls Tryz.prog 50 #[.string a0] w fun e w' => ∃ v0_ : Value, e = .returned (.tuple #[v0_, .int .i64 r2]) ∧ Kd.S (Kd.slice 61 k61) 40 w' w.heap.size (fun _ => True) v0_ r1 ∧ Below w.heap.size w w' := by
 have HLD := aM hL_
 clear hL_
 unfold rows_Parse.f at h
 by_cases hs : 20000 < a0.size
 ·rw [if_pos hs] at h
  simp only [Option.some.injEq, Prod.mk.injEq] at h
  obtain ⟨rfl, rfl⟩ := h
  have hs2 : (20000 : Int) < (a0.size : Int) := by omega
  have hs3 : decide ((20000 : Int) < (a0.size : Int)) = true := decide_eq_true hs2
  go_enter Tryz.func50, Tryz.ntmps50
  go_wp2
  go_ret2
  exact ⟨_, rfl, Kd.S_nil _ _ _ _ _, Below.refl _ _⟩
 rw [if_neg hs] at h
 have hs3 : decide ((20000 : Int) < (a0.size : Int)) = false := decide_eq_false (by omega)
 obtain ⟨k, hk⟩ : ∃ k, k = a0.size + 100000 := ⟨_, rfl⟩
 rw [← hk] at h
 clear hk
 have H' := aM h
 clear h
 have HB := aM (Below.refl w.heap.size w)
 go_enter Tryz.func50, Tryz.ntmps50
 go_wp2
 go_loopg [0, 4, 5, 6] k (fun kq v0 v4 _ _ w' => ∃ (s : ByteArray) (out : List (List V)), v0 = .string s ∧ s.size ≤ 20000 ∧ Aside0 (rows_Parse.l0 kq s out = some (r1, r2)) ∧ Aside0 (Kd.S (Kd.slice 61 k61) 40 w' w.heap.size (fun _ => True) v4 out) ∧ Aside0 (Below w.heap.size w w'))
 case atStart => exact ⟨a0, [], rfl, by omega, H', ⟨Kd.S_nil _ _ _ _ _⟩, HB⟩
 case round =>
  clear H' HB
  obtain ⟨s, out, rfl, hsz, HA, HO, HB⟩ := hrel
  cases gk with
  | zero => exact absurd HA.out (by simp [rows_Parse.l0])
  | succ k1 =>
   have H := HA.out
   clear HA
   simp only [rows_Parse.l0] at H
   obtain ⟨Ao, co, eo⟩ := Kd.S_slice HO.out
   subst eo
   by_cases hz : s.size = 0
   ·rw [if_pos hz] at H
    obtain rfl : s = ⟨#[]⟩ := by
     obtain ⟨⟨d⟩⟩ := s
     have : d.length = 0 := hz
     rw [List.eq_nil_of_length_eq_zero this]
    clear hz
    have HS := aM (small_one Ao co out wr wr (Kd.S_reads' HO.out).2.2 (Kd.S_reads' HO.out).2.1 (Below.refl _ _))
    by_cases hl : out.length ≤ 100000
    case neg => rw [if_neg hl] at H; cases H
    rw [if_pos hl] at H
    by_cases hsm : smallE [out] = 0
    ·rw [if_pos hsm] at H
     simp only [Option.some.injEq, Prod.mk.injEq] at H
     obtain ⟨rfl, rfl⟩ := H
     rw [hsm] at HS
     go_wp2_with (go_at_call 52; refine HS.out.mono ?_; rintro e w1 ⟨rfl, hb1⟩; have HB1 := aM (below_step HB.out hb1); have HO1 := aM (Kd.S_below HO.out hb1); clear hb1)
     go_ret2
     exact ⟨_, rfl, HO1.out, HB1.out⟩
    ·rw [if_neg hsm] at H
     simp only [Option.some.injEq, Prod.mk.injEq] at H
     obtain ⟨rfl, rfl⟩ := H
     have hs2 : (smallE [out] != 0) = true := by simpa using hsm
     clear hsm
     generalize smallE [out] = q at HS hs2
     go_wp2_with (go_at_call 52; refine HS.out.mono ?_; rintro e w1 ⟨rfl, hb1⟩; have HB1 := aM (below_step HB.out hb1); clear hb1)
     go_ret2
     exact ⟨_, rfl, Kd.S_nil _ _ _ _ _, HB1.out⟩
   ·rw [if_neg hz] at H
    have hne : s.toList.isEmpty = false := by
     obtain ⟨⟨d⟩⟩ := s
     rw [ByteArray.toList_eq]
     cases d with
     | nil => exact absurd rfl hz
     | cons _ _ => rfl
    replace H := Option.bind_eq_some_iff.mp H
    obtain ⟨⟨r, n⟩, A5, H⟩ := H
    dsimp only at H
    have HR := aM (fun W (hL : LaidE W) => rows_Row.calls k1 s r n W hL A5)
    clear A5
    by_cases hn : n = 0
    ·rw [if_pos hn] at H
     simp only [Option.some.injEq, Prod.mk.injEq] at H
     obtain ⟨rfl, rfl⟩ := H
     subst hn
     go_wp2_with (go_at_call 83; refine (HR.out _ (HLD.out.below HB.out)).mono ?_; rintro e w1 ⟨v1, rfl, hv1, hb1⟩; have HB1 := aM (below_step HB.out hb1); clear hb1)
     go_ret2
     exact ⟨_, rfl, Kd.S_nil _ _ _ _ _, HB1.out⟩
    ·rw [if_neg hn] at H
     by_cases hr : 0 ≤ n ∧ n ≤ (s.size : Int)
     case neg => rw [if_neg hr] at H; cases H
     rw [if_pos hr] at H
     replace H := Option.bind_eq_some_iff.mp H
     obtain ⟨t, A6, H⟩ := H
     have HPF := aM (fun W => strings_HasPrefix.calls (s.extract n.toNat s.size) (⟨#[10]⟩ : ByteArray) t W A6)
     clear A6
     have hn0 : (n == 0) = false := by simpa using hn
     have q1 : 0 ≤ n := hr.1
     have q2 : n ≤ (s.size : Int) := by omega
     cases t with
     | false =>
      rw [if_neg (by decide)] at H
      simp only [Option.some.injEq, Prod.mk.injEq] at H
      obtain ⟨rfl, rfl⟩ := H
      go_wp2_with (first
       | (go_at_call 83; refine (HR.out _ (HLD.out.below HB.out)).mono ?_; rintro e w1 ⟨v1, rfl, hv1, hb1⟩; have HB1 := aM (below_step HB.out hb1); clear hb1)
       | (go_at_call 84; refine (HPF.out _).mono ?_; rintro e w2 ⟨rfl, ⟨nd, rfl⟩⟩))
      go_ret2
      exact ⟨_, rfl, Kd.S_nil _ _ _ _ _, yN HB1.out _⟩
     | true =>
      rw [if_pos rfl] at H
      by_cases hl : out.length ≤ 100000 ∧ n < (s.size : Int)
      case neg => rw [if_neg hl] at H; cases H
      rw [if_pos hl] at H
      have HN := aM H
      clear H
      have hw : IntKind.i64.wrap (n + 1) = n + 1 := (i64_w _).trans (wrap_small (by omega) (by omega))
      have p1 : 0 ≤ n + 1 := by omega
      have p2 : n + 1 ≤ (s.size : Int) := by omega
      go_wp2_with (first
       | (go_at_call 83; refine (HR.out _ (HLD.out.below HB.out)).mono ?_; rintro e w1 ⟨v1, rfl, hv1, hb1⟩; obtain ⟨Ar, cr, rfl⟩ := Kd.R_slice hv1; have HB1 := aM (below_step HB.out hb1); have HO1 := aM (Kd.S_elder' HO.out (Kd.R_base hv1) hb1); have HR1 := aM (Kd.R_lower hv1 HB.out.size); clear hv1 hb1)
       | (go_at_call 84; refine (HPF.out _).mono ?_; rintro e w2 ⟨rfl, ⟨nd, rfl⟩⟩)
       | (at_builtin; refine Kd.S_append (Kd.slice 61 k61) (w0 := w) w.heap.size rfl (.tmp 26) (.tmp 28) 22 40 (.slice none 0 0) 24 rfl Tryz.underlying22 info40 rfl (by decide) (by omega) (.slice Ao out.length co) out r [.slice Ar r.length cr] (fun _ => True) (fun k_ => some k_ = (.slice Ar r.length cr : Value).ownBlock) rfl rfl ?aP (fun k_ hk_ => ((Kd.R_mono (ok' := fun k_ => ((fun _ => True)) k_ ∧ some k_ ≠ (.slice Ao out.length co : Value).ownBlock) (Kd.R_apart' (HR1.out) (Kd.S_typed HO1.out) (by decide)) (fun k_ hk => ⟨trivial, hk.2⟩))).1 k_ hk_.symm) ?aF ?aO ?aB ?aS ?aL ?_; (case aP => exact Kd.M_row (Kd.R_mono (Kd.R_tight rfl (Kd.R_mono (ok' := fun k_ => ((fun _ => True)) k_ ∧ some k_ ≠ (.slice Ao out.length co : Value).ownBlock) (Kd.R_apart' (HR1.out) (Kd.S_typed HO1.out) (by decide)) (fun k_ hk => ⟨trivial, hk.2⟩))) (fun _ h_ => h_))); (case aB => exact yN HB1.out _); (case aF => exact (fun _ _ => trivial)); (case aO => exact Kd.S_drewN (Kd.S_mono HO1.out (fun k_ hk => ⟨trivial, fun e_ => hk.2 e_⟩)) _); (case aS => exact (yN HB1.out _).size); (case aL => omega); intro v4 w4 ho hb hg hat; have HO4 := aM ho; have HB4 := aM hb; clear ho hb hg hat))
      go_roundg k1
      case measure => omega
      case rel => exact ⟨_, _, rfl, by simp only [ByteArray.size_extract]; omega, HN, HO4, HB4⟩
mutual
def tacticianref02_Read.j0 : Nat → ByteArray → Bool → Option ((List (S61)) × Int)
  | 0, _, _ => none
  | k + 1, x0, x15 => if x15 = true then (some (([] : List (S61)), 0)) else (if 1 < (x0.size : Int) then (if (bt x0 1) = 41 then (some (([] : List (S61)), 2)) else (tacticianref02_Read.l0 k x0 ([] : List (S61)) 1)) else (none))
def tacticianref02_Read.l0 : Nat → ByteArray → List (S61) → Int → Option ((List (S61)) × Int)
  | 0, _, _, _ => none
  | k + 1, x0, x4, x5 => if 0 ≤ x5 then (if x5 ≤ (x0.size : Int) then ((tacticianref02_Value.f k (x0.extract (x5 : Int).toNat x0.size)).bind fun bt733 => (if bt733.2.2.2 = 0 then (some (([] : List (S61)), 0)) else (if x4.length < 4398046511104 then ((some (x4 ++ [(⟨bt733.1, bt733.2.1, bt733.2.2.1⟩ : S61)] : List (S61))).bind fun y738 => (if (wrap64 (x5 + bt733.2.2.2)) < (x0.size : Int) then (if 0 ≤ (wrap64 (x5 + bt733.2.2.2)) then (tacticianref02_Read.j2 k x0 y738 (wrap64 (x5 + bt733.2.2.2)) ((bt x0 (wrap64 (x5 + bt733.2.2.2))) == 41)) else (none)) else (tacticianref02_Read.j2 k x0 y738 (wrap64 (x5 + bt733.2.2.2)) false))) else (none)))) else (none)) else (none)
def tacticianref02_Read.j2 : Nat → ByteArray → List (S61) → Int → Bool → Option ((List (S61)) × Int)
  | 0, _, _, _, _ => none
  | k + 1, x0, x4, x5, x44 => if x44 = true then (some (x4, wrap64 (x5 + 1))) else (if (wrap64 (x5 + 2)) > (x0.size : Int) then (some (([] : List (S61)), 0)) else (if 0 ≤ x5 then (if x5 ≤ (wrap64 (x5 + 2)) then (if (wrap64 (x5 + 2)) ≤ (x0.size : Int) then (if (x0.extract (x5 : Int).toNat ((wrap64 (x5 + 2)) : Int).toNat).toList = ([44, 32] : List UInt8) then (tacticianref02_Read.l0 k x0 x4 (wrap64 (x5 + 2))) else (some (([] : List (S61)), 0))) else (none)) else (none)) else (none)))
end
def tacticianref02_Read.f (k : Nat) (a0 : ByteArray) : Option ((List (S61)) × Int) := if (a0.size : Int) < 2 then (tacticianref02_Read.j0 k a0 true) else (if 0 < (a0.size : Int) then (tacticianref02_Read.j0 k a0 ((bt a0 0) != 40)) else (none))
set_option maxHeartbeats 8000000 in
set_option maxRecDepth 100000 in
theorem tacticianref02_Read.calls (k : Nat) (a0 : ByteArray) (r1 : List (S61)) (r2 : Int) (w : World) (h : tacticianref02_Read.f k a0 = some (r1, r2)) :
  Calls Tryz.prog 85 #[.string a0] w fun e w' => ∃ v0_ : Value, e = .returned (.tuple #[v0_, .int .i64 r2]) ∧ Kd.R k61 61 w' w.heap.size (fun _ => True) v0_ r1 ∧ Below w.heap.size w w' := by
 have hu61 := Tryz.underlying61
 have HB := aM (Below.refl w.heap.size w)
 have H : (if (a0.size : Int) < 2 then (tacticianref02_Read.j0 k a0 true) else (if 0 < (a0.size : Int) then (tacticianref02_Read.j0 k a0 ((bt a0 0) != 40)) else (none))) = some (r1, r2) := h
 clear h
 have HC2 := aM H
 clear H
 go_enter Tryz.func85, Tryz.ntmps85
 go_upto_region 1 with (fail)
 go_cut [15] (fun v15 wc => ∃ (kq : Nat) (x15_1 : Bool), v15 = .bool x15_1 ∧ Aside0 (tacticianref02_Read.j0 kq a0 x15_1 = some (r1, r2)) ∧ Aside0 (kq ≤ k) ∧ Aside0 (Below w.heap.size w wc))
 case first =>
  have H := HC2.out
  clear HC2
  by_cases c3 : (a0.size : Int) < 2
  ·rw [if_pos c3] at H
   have c3b0 : decide ((a0.size : Int) < 2) = true := decide_eq_true c3
   have c3b1 : decide (a0.size < 2) = true := decide_eq_true (by omega)
   clear c3
   (first | rw [c3b0] | (simp only [i64_w, i32_w]; rw [c3b0]) | skip)
   have H' := aM H
   clear H
   go_wp2
   go_meet
   case rel => exact ⟨_, (true), (by first | rfl | (simp; done) | (simp [*]; done)), H', ⟨by first | omega | exact Nat.le_refl _⟩, ⟨by repeat (first | (with_reducible first | exact HB.out | apply yA | apply yN | apply yD) | exact HB.out)⟩⟩
  ·rw [if_neg c3] at H
   have c3b0 : decide ((a0.size : Int) < 2) = false := decide_eq_false c3
   have c3b1 : decide (a0.size < 2) = false := decide_eq_false (by omega)
   clear c3
   (first | rw [c3b0] | (simp only [i64_w, i32_w]; rw [c3b0]) | skip)
   by_cases c4 : 0 < (a0.size : Int)
   ·rw [if_pos c4] at H
    have c4b0 : decide (0 < (a0.size : Int)) = true := decide_eq_true c4
    have c4b1 : decide (0 < a0.size) = true := decide_eq_true (by omega)
    clear c4
    have H' := aM H
    clear H
    have p5 : 0 ≤ (0 : Int) := (by omega)
    have q5 : 0 < a0.size := (by have : (0 : Int) < (a0.size : Int) := of_decide_eq_true (by first | (with_reducible assumption) | assumption); omega)
    have hx5 : ∀ h : 0 < a0.size, ((a0[0]'h).toNat : Int) = bt a0 0 := bt_at a0 0
    clear p5
    have qi5 : (0 < (a0.size : Int)) = True := eq_true (of_decide_eq_true (by first | (with_reducible assumption) | assumption))
    replace q5 := eq_true q5
    go_wp2
    go_meet
    case rel => exact ⟨_, (((bt a0 0) != 40)), (by first | rfl | (simp; done) | (simp [*]; done)), H', ⟨by first | omega | exact Nat.le_refl _⟩, ⟨by repeat (first | (with_reducible first | exact HB.out | apply yA | apply yN | apply yD) | exact HB.out)⟩⟩
   ·rw [if_neg c4] at H
    exact absurd H (by simp)
 case rest =>
  clear HC2
  obtain ⟨kq, x15_1, rfl, HA, HJ1, HB⟩ := hcut
  cases kq with
  | zero => exact absurd HA.out (by simp [tacticianref02_Read.j0])
  | succ kj1 =>
   have H := HA.out
   clear HA
   simp only [tacticianref02_Read.j0] at H
   by_cases c6 : x15_1 = true
   ·subst c6
    have H1 : (some (([] : List (S61)), 0)) = some (r1, r2) := by rw [if_pos rfl] at H; exact H
    clear H
    have H := H1
    clear H1
    simp only [Option.some.injEq, Prod.mk.injEq] at H
    obtain ⟨rfl, rfl⟩ := H
    go_wp2
    go_ret2
    exact ⟨_, by first | rfl | (simp [errW_none, errW_some] <;> rfl) | (simp [*, errW_none, errW_some] <;> rfl), by first | exact Kd.R_nil _ _ _ _ _ | exact Kd.N_nil _ _ _ _ _ | exact Kd.V_nil _ _ _ _ _ | exact Kd.Q_nil _ _ _ _ _ | exact Kd.S_nil _ _ _ _ _, by repeat (first | (with_reducible first | exact HB.out | apply yA | apply yN | apply yD) | exact HB.out)⟩
   ·replace c6 := Bool.eq_false_iff.mpr c6
    subst c6
    have H1 : (if 1 < (a0.size : Int) then (if (bt a0 1) = 41 then (some (([] : List (S61)), 2)) else (tacticianref02_Read.l0 kj1 a0 ([] : List (S61)) 1)) else (none)) = some (r1, r2) := by rw [if_neg (show ¬ (false = true) by decide)] at H; exact H
    clear H
    have H := H1
    clear H1
    by_cases c7 : 1 < (a0.size : Int)
    ·rw [if_pos c7] at H
     have c7b0 : decide (1 < (a0.size : Int)) = true := decide_eq_true c7
     have c7b1 : decide (1 < a0.size) = true := decide_eq_true (by omega)
     clear c7
     by_cases c9 : (bt a0 1) = 41
     ·rw [if_pos c9] at H
      have c9b0 : ((bt a0 1) == 41) = true := beq_iff_eq.mpr c9
      have c9b1 : ((bt a0 1) != 41) = false := bne_eq_false_iff_eq.mpr c9
      clear c9
      simp only [Option.some.injEq, Prod.mk.injEq] at H
      obtain ⟨rfl, rfl⟩ := H
      have p8 : 0 ≤ (1 : Int) := (by omega)
      have q8 : 1 < a0.size := (by have : (1 : Int) < (a0.size : Int) := of_decide_eq_true (by first | (with_reducible assumption) | assumption); omega)
      have hx8 : ∀ h : 1 < a0.size, ((a0[1]'h).toNat : Int) = bt a0 1 := bt_at a0 1
      clear p8
      have qi8 : (1 < (a0.size : Int)) = True := eq_true (of_decide_eq_true (by first | (with_reducible assumption) | assumption))
      replace q8 := eq_true q8
      go_wp2
      go_ret2
      exact ⟨_, by first | rfl | (simp [errW_none, errW_some] <;> rfl) | (simp [*, errW_none, errW_some] <;> rfl), by first | exact Kd.R_nil _ _ _ _ _ | exact Kd.N_nil _ _ _ _ _ | exact Kd.V_nil _ _ _ _ _ | exact Kd.Q_nil _ _ _ _ _ | exact Kd.S_nil _ _ _ _ _, by repeat (first | (with_reducible first | exact HB.out | apply yA | apply yN | apply yD) | exact HB.out)⟩
     ·rw [if_neg c9] at H
      have c9b0 : ((bt a0 1) == 41) = false := beq_eq_false_iff_ne.mpr c9
      have c9b1 : ((bt a0 1) != 41) = true := bne_iff_ne.mpr c9
      have H' := aM H
      clear H
      have p8 : 0 ≤ (1 : Int) := (by omega)
      have q8 : 1 < a0.size := (by have : (1 : Int) < (a0.size : Int) := of_decide_eq_true (by first | (with_reducible assumption) | assumption); omega)
      have hx8 : ∀ h : 1 < a0.size, ((a0[1]'h).toNat : Int) = bt a0 1 := bt_at a0 1
      clear p8
      have qi8 : (1 < (a0.size : Int)) = True := eq_true (of_decide_eq_true (by first | (with_reducible assumption) | assumption))
      replace q8 := eq_true q8
      go_wp2
      go_loopg [4, 5] kj1 (fun kq v4 v5 w' => ∃ (x4_2 : List (S61)) (x5_2 : Int), v5 = .int .i64 x5_2 ∧ Aside0 (tacticianref02_Read.l0 kq a0 x4_2 x5_2 = some (r1, r2)) ∧ Aside0 (kq ≤ kj1) ∧ Aside0 (Kd.R k61 61 w' w.heap.size (fun _ => True) v4 x4_2) ∧ Aside0 (Below w.heap.size w w'))
      case atStart => exact ⟨(([] : List (S61))), (1), (by first | rfl | (simp; done) | (simp [*]; done)), H', ⟨Nat.le_refl _⟩, ⟨by first | exact Kd.R_nil _ _ _ _ _ | exact Kd.N_nil _ _ _ _ _ | exact Kd.V_nil _ _ _ _ _ | exact Kd.Q_nil _ _ _ _ _ | exact Kd.S_nil _ _ _ _ _⟩, ⟨by repeat (first | (with_reducible first | exact HB.out | apply yA | apply yN | apply yD) | exact HB.out)⟩⟩
      case round =>
       clear H'
       try clear c6
       try clear c7
       try clear c7b0
       try clear c7b1
       try clear p8
       try clear q8
       try clear hx8
       try clear qi8
       try clear c9
       try clear c9b0
       try clear c9b1
       try clear p8
       try clear q8
       obtain ⟨x4_2, x5_2, rfl, HA, HK2, HO_4, HB⟩ := hrel
       cases gk with
       | zero => exact absurd HA.out (by simp [tacticianref02_Read.l0])
       | succ k2 =>
        have H := HA.out
        clear HA
        simp only [tacticianref02_Read.l0] at H
        by_cases c10 : 0 ≤ x5_2
        ·rw [if_pos c10] at H
         have c10b0 := eq_true c10
         have c10b1 : decide (0 ≤ x5_2) = true := decide_eq_true c10
         clear c10
         by_cases c11 : x5_2 ≤ (a0.size : Int)
         ·rw [if_pos c11] at H
          have c11b0 := eq_true c11
          have c11b1 : decide (x5_2 ≤ (a0.size : Int)) = true := decide_eq_true c11
          clear c11
          replace H := Option.bind_eq_some_iff.mp H
          obtain ⟨⟨t733, t734, t735, t736⟩, A120, H⟩ := H
          replace H : (if t736 = 0 then (some (([] : List (S61)), 0)) else (if x4_2.length < 4398046511104 then ((some (x4_2 ++ [(⟨t733, t734, t735⟩ : S61)] : List (S61))).bind fun y738 => (if (wrap64 (x5_2 + t736)) < (a0.size : Int) then (if 0 ≤ (wrap64 (x5_2 + t736)) then (tacticianref02_Read.j2 k2 a0 y738 (wrap64 (x5_2 + t736)) ((bt a0 (wrap64 (x5_2 + t736))) == 41)) else (none)) else (tacticianref02_Read.j2 k2 a0 y738 (wrap64 (x5_2 + t736)) false))) else (none))) = some (r1, r2) := H
          have A12 := aM A120
          clear A120
          by_cases c13 : t736 = 0
          ·rw [if_pos c13] at H
           have c13b0 : (t736 == 0) = true := beq_iff_eq.mpr c13
           have c13b1 : (t736 != 0) = false := bne_eq_false_iff_eq.mpr c13
           clear c13
           simp only [Option.some.injEq, Prod.mk.injEq] at H
           obtain ⟨rfl, rfl⟩ := H
           go_wp2_with (first | ((with_reducible refine gate_callee (f := 122) rfl ?_); refine goesL_ (some 23) rfl rfl Tryz.func122 (by kernel_rfl) rfl #[.string (a0.extract (x5_2 : Int).toNat a0.size)] rfl (by (try simp only [List.map_toArray, List.map_cons, List.map_nil]); first | done | rfl | (simp only [List.length_drop, List.length_take]; rfl)) ?_; (with_reducible refine (tacticianref02_Value.calls k2 (a0.extract (x5_2 : Int).toNat a0.size) t733 t734 t735 t736 _ A12.out).mono ?_); rintro e w14 ⟨rfl, hb⟩; refine ⟨_, rfl, ?_⟩; have n0_ := aM (Kd.R_below (by (with_reducible repeat (first | apply Kd.R_alloc | apply Kd.R_drewN | apply Kd.R_drew)); exact HO_4.out) hb); have n1_ := aM (below_step (by repeat (first | (with_reducible first | exact HB.out | apply yA | apply yN | apply yD) | exact HB.out)) hb); clear HO_4; clear HB; have HO_4 := n0_; have HB := n1_; clear n0_ n1_; (try clear hb); (try clear hb2); (try clear hk); (try clear hi)) | ((with_reducible refine gate_dst (N := 6) rfl ?_); refine box_event ?hg (N := 6) ?hd (cs := #[.int .i64 0, .int .i64 0, .string (⟨#[]⟩ : ByteArray)]) (t := 61) ?hr ?_; (case hd => rfl); (case hg => rfl); (case hr => first | (go_simp; done) | (go_simp; rfl)); intro gb737 hg w15 hbox hb; have n0_ := aM (Kd.R_below (Kd.R_elderB (by (with_reducible repeat (first | apply Kd.R_alloc | apply Kd.R_drewN | apply Kd.R_drew)); exact HO_4.out) gb737 (Nat.le_of_eq hg.symm)) hb); have n1_ := aM (below_step (by repeat (first | (with_reducible first | exact HB.out | apply yA | apply yN | apply yD) | exact HB.out)) hb); have n2_ := aM (hbox); have n3_ := aM ((by rw [hg]; exact (below_size (by repeat (first | (with_reducible first | exact HB.out | apply yA | apply yN | apply yD) | exact HB.out))) : w.heap.size ≤ gb737)); have n4_ := n3_; clear HO_4; clear HB; have HO_4 := n0_; have HB := n1_; have BK737 := n2_; have GW737 := n3_; have GE737 := n4_; clear n0_ n1_ n2_ n3_ n4_; clear hb hbox hg; have hcz16_0 : w15.cell? ⟨gb737, 0, none⟩ = some (.int .i64 0) := (blk_cell BK737.out 0).trans rfl; have hcz16_1 : w15.cell? ⟨gb737, 1, none⟩ = some (.int .i64 0) := (blk_cell BK737.out 1).trans rfl; have hcz16_2 : w15.cell? ⟨gb737, 2, none⟩ = some (.string (⟨#[]⟩ : ByteArray)) := (blk_cell BK737.out 2).trans rfl; have hfz16_0 := blk_frozen BK737.out 0; have hfz16_1 := blk_frozen BK737.out 1; have hfz16_2 := blk_frozen BK737.out 2))
           go_ret2
           exact ⟨_, by first | rfl | (simp [errW_none, errW_some] <;> rfl) | (simp [*, errW_none, errW_some] <;> rfl), by first | exact Kd.R_nil _ _ _ _ _ | exact Kd.N_nil _ _ _ _ _ | exact Kd.V_nil _ _ _ _ _ | exact Kd.Q_nil _ _ _ _ _ | exact Kd.S_nil _ _ _ _ _, by repeat (first | (with_reducible first | exact HB.out | apply yA | apply yN | apply yD | refine below_set ?_ GE737.out) | exact HB.out)⟩
          ·rw [if_neg c13] at H
           have c13b0 : (t736 == 0) = false := beq_eq_false_iff_ne.mpr c13
           have c13b1 : (t736 != 0) = true := bne_iff_ne.mpr c13
           by_cases c17 : x4_2.length < 4398046511104
           ·rw [if_pos c17] at H
            have LMc17 := aM c17
            clear c17
            obtain ⟨y738, hy738⟩ : ∃ y_ : List (S61), y_ = (x4_2 ++ [(⟨t733, t734, t735⟩ : S61)]) := ⟨_, rfl⟩
            replace H : (if (wrap64 (x5_2 + t736)) < (a0.size : Int) then (if 0 ≤ (wrap64 (x5_2 + t736)) then (tacticianref02_Read.j2 k2 a0 y738 (wrap64 (x5_2 + t736)) ((bt a0 (wrap64 (x5_2 + t736))) == 41)) else (none)) else (tacticianref02_Read.j2 k2 a0 y738 (wrap64 (x5_2 + t736)) false)) = some (r1, r2) := by first | (rw [hy738]; with_reducible exact H) | (have H2_ := (Option.bind_some _ _).symm.trans H; rw [hy738]; with_reducible exact H2_) | (have H2_ := (Option.bind_some _ _).symm.trans H; with_reducible exact H2_) | with_reducible exact H | (rw [hy738]; exact H) | exact H
            have Ny738 := aM hy738
            clear hy738
            have HC18 := aM H
            clear H
            go_upto_region 12 with (first | ((with_reducible refine gate_callee (f := 122) rfl ?_); refine goesL_ (some 23) rfl rfl Tryz.func122 (by kernel_rfl) rfl #[.string (a0.extract (x5_2 : Int).toNat a0.size)] rfl (by (try simp only [List.map_toArray, List.map_cons, List.map_nil]); first | done | rfl | (simp only [List.length_drop, List.length_take]; rfl)) ?_; (with_reducible refine (tacticianref02_Value.calls k2 (a0.extract (x5_2 : Int).toNat a0.size) t733 t734 t735 t736 _ A12.out).mono ?_); rintro e w19 ⟨rfl, hb⟩; refine ⟨_, rfl, ?_⟩; have n0_ := aM (Kd.R_below (by (with_reducible repeat (first | apply Kd.R_alloc | apply Kd.R_drewN | apply Kd.R_drew)); exact HO_4.out) hb); have n1_ := aM (below_step (by repeat (first | (with_reducible first | exact HB.out | apply yA | apply yN | apply yD) | exact HB.out)) hb); clear HO_4; clear HB; have HO_4 := n0_; have HB := n1_; clear n0_ n1_; (try clear hb); (try clear hb2); (try clear hk); (try clear hi)) | ((with_reducible refine gate_dst (N := 6) rfl ?_); refine box_event ?hg (N := 6) ?hd (cs := #[.int .i64 0, .int .i64 0, .string (⟨#[]⟩ : ByteArray)]) (t := 61) ?hr ?_; (case hd => rfl); (case hg => rfl); (case hr => first | (go_simp; done) | (go_simp; rfl)); intro gb737 hg w20 hbox hb; have n0_ := aM (Kd.R_below (Kd.R_elderB (by (with_reducible repeat (first | apply Kd.R_alloc | apply Kd.R_drewN | apply Kd.R_drew)); exact HO_4.out) gb737 (Nat.le_of_eq hg.symm)) hb); have n1_ := aM (below_step (by repeat (first | (with_reducible first | exact HB.out | apply yA | apply yN | apply yD) | exact HB.out)) hb); have n2_ := aM (hbox); have n3_ := aM ((by rw [hg]; exact (below_size (by repeat (first | (with_reducible first | exact HB.out | apply yA | apply yN | apply yD) | exact HB.out))) : w.heap.size ≤ gb737)); have n4_ := n3_; clear HO_4; clear HB; have HO_4 := n0_; have HB := n1_; have BK737 := n2_; have GW737 := n3_; have GE737 := n4_; clear n0_ n1_ n2_ n3_ n4_; clear hb hbox hg; have hcz21_0 : w20.cell? ⟨gb737, 0, none⟩ = some (.int .i64 0) := (blk_cell BK737.out 0).trans rfl; have hcz21_1 : w20.cell? ⟨gb737, 1, none⟩ = some (.int .i64 0) := (blk_cell BK737.out 1).trans rfl; have hcz21_2 : w20.cell? ⟨gb737, 2, none⟩ = some (.string (⟨#[]⟩ : ByteArray)) := (blk_cell BK737.out 2).trans rfl; have hfz21_0 := blk_frozen BK737.out 0; have hfz21_1 := blk_frozen BK737.out 1; have hfz21_2 := blk_frozen BK737.out 2) | ((with_reducible refine gate_builtin (b := .append) (xs := #[.tmp 28, .tmp 30]) rfl ?_); at_builtin; refine Kd.R_append k61 (w0 := w) w.heap.size rfl (.tmp 28) (.tmp 30) 40 61 (.agg #[(.int .i64 0), (.int .i64 0), (.string ⟨#[]⟩)]) 32 rfl Tryz.underlying40 info61 rfl (by decide) (by omega) u4 x4_2 (⟨t733, t734, t735⟩ : S61) [.int .i64 t733, .int .i64 t734, .string t735] (fun k_ => k_ ≠ gb737) (fun _ => False) rfl (by first | (go_simp; done) | (go_simp; rfl)) ?aP (fun _ hk => hk.elim) ?aF ?aO ?aB ?aS ?aL ?_; (case aP => exact k61_mkM _ _ _ (⟨t733, t734, t735⟩ : S61)); (case aB => exact (by repeat (first | (with_reducible first | exact HB.out | apply yA | apply yN | apply yD | refine below_set ?_ GE737.out) | exact HB.out))); (case aF => exact (fun k_ hk => Kd.freshB (g := gb737) (o := .cells #[.int .i64 t733, .int .i64 t734, .string t735] 61 (0, 0)) (by (with_reducible repeat (first | refine zN ?_ _ | refine zD ?_ | refine zA ?_ _)); refine blk_put (cs := #[.int .i64 t733, .int .i64 t734, .string (⟨#[]⟩ : ByteArray)]) ?_ 2 _ rfl; (with_reducible repeat (first | refine zN ?_ _ | refine zD ?_ | refine zA ?_ _)); refine blk_put (cs := #[.int .i64 t733, .int .i64 0, .string (⟨#[]⟩ : ByteArray)]) ?_ 1 _ rfl; (with_reducible repeat (first | refine zN ?_ _ | refine zD ?_ | refine zA ?_ _)); refine blk_put (cs := #[.int .i64 0, .int .i64 0, .string (⟨#[]⟩ : ByteArray)]) ?_ 0 _ rfl; (with_reducible repeat (first | refine zN ?_ _ | refine zD ?_ | refine zA ?_ _)); exact BK737.out) k_ hk)); (case aO => exact (by (with_reducible repeat (first | apply Kd.R_alloc | apply Kd.R_drewN | apply Kd.R_drew)); exact Kd.R_mono (Kd.R_far (p := ⟨gb737, 2, none⟩) (Kd.R_far (p := ⟨gb737, 1, none⟩) (Kd.R_far (p := ⟨gb737, 0, none⟩) (Kd.R_mono HO_4.out (fun k_ hk => (⟨hk, hk.2⟩ : _ ∧ k_ ≠ gb737))) (fun _ hk => hk.2) (.int .i64 t733)) (fun _ hk => hk.2) (.int .i64 t734)) (fun _ hk => hk.2) (.string t735)) (fun _ hk => hk.1.2))); (case aS => exact (below_size (by repeat (first | (with_reducible first | exact HB.out | apply yA | apply yN | apply yD | refine below_set ?_ GE737.out) | exact HB.out)))); (case aL => have := LMc17.out; omega); intro v739 w22 ho hb hg hat; rw [← Ny738.out] at ho; have n0_ := aM (blk_grown (g := gb737) (o := .cells #[.int .i64 t733, .int .i64 t734, .string t735] 61 (0, 0)) (by (with_reducible repeat (first | refine zN ?_ _ | refine zD ?_ | refine zA ?_ _)); refine blk_put (cs := #[.int .i64 t733, .int .i64 t734, .string (⟨#[]⟩ : ByteArray)]) ?_ 2 _ rfl; (with_reducible repeat (first | refine zN ?_ _ | refine zD ?_ | refine zA ?_ _)); refine blk_put (cs := #[.int .i64 t733, .int .i64 0, .string (⟨#[]⟩ : ByteArray)]) ?_ 1 _ rfl; (with_reducible repeat (first | refine zN ?_ _ | refine zD ?_ | refine zA ?_ _)); refine blk_put (cs := #[.int .i64 0, .int .i64 0, .string (⟨#[]⟩ : ByteArray)]) ?_ 0 _ rfl; (with_reducible repeat (first | refine zN ?_ _ | refine zD ?_ | refine zA ?_ _)); exact BK737.out) hg (Kd.R_away HO_4.out (fun _ hk => hk.2))); have n1_ := aM (hb); have n2_ := aM (ho); clear BK737; clear HB; clear HO_4; have BK737 := n0_; have HB := n1_; have HO740 := n2_; clear n0_ n1_ n2_; clear ho hb hg hat))
            (try simp only [Act.put, List.setIfInBounds_toArray, List.set_cons_zero, List.set_cons_succ])
            go_cut [44] (fun v44 wc => ∃ (kq : Nat) (x44_17 : Bool), v44 = .bool x44_17 ∧ Aside0 (tacticianref02_Read.j2 kq a0 y738 (wrap64 (x5_2 + t736)) x44_17 = some (r1, r2)) ∧ Aside0 (kq ≤ k2) ∧ Aside0 (Kd.R k61 61 wc w.heap.size (fun k_ => k_ ≠ gb737) v739 y738) ∧ Aside0 (wc.heap[gb737]? = some (.cells #[.int .i64 t733, .int .i64 t734, .string t735] 61 (0, 0))) ∧ Aside0 (Below w.heap.size w wc))
            case first =>
             have H := HC18.out
             clear HC18
             by_cases c23 : (wrap64 (x5_2 + t736)) < (a0.size : Int)
             ·rw [if_pos c23] at H
              have c23b0 : decide ((wrap64 (x5_2 + t736)) < (a0.size : Int)) = true := decide_eq_true c23
              clear c23
              (first | rw [c23b0] | (simp only [i64_w, i32_w]; rw [c23b0]) | skip)
              obtain ⟨ji24, hji24⟩ : ∃ j_ : Int, (wrap64 (x5_2 + t736)) = j_ := ⟨_, rfl⟩
              replace H : (if 0 ≤ (ji24) then (tacticianref02_Read.j2 k2 a0 y738 ji24 ((bt a0 (ji24)) == 41)) else (none)) = some (r1, r2) := by first | (rw [hji24] at H; exact H) | (simp only [hji24] at H ⊢; exact H)
              (try rw [hji24] at c23b0)
              have hji24w : (IntKind.i64.wrap (x5_2 + t736)) = ji24 := (i64_w _).trans hji24
              by_cases c25 : 0 ≤ (ji24)
              ·rw [if_pos c25] at H
               have c25b0 : decide (0 ≤ (ji24)) = true := decide_eq_true c25
               clear c25
               have H' := aM H
               clear H
               have p26 : 0 ≤ ((ji24) : Int) := of_decide_eq_true (by first | (with_reducible assumption) | assumption)
               have q26 : (ji24) < (a0.size : Int) := of_decide_eq_true (by first | (with_reducible assumption) | assumption)
               have hx26 := bt_at a0 (ji24)
               replace p26 := eq_true p26
               replace q26 := eq_true q26
               go_wp2
               go_meet
               case rel => exact ⟨_, (((bt a0 (ji24)) == 41)), (by first | rfl | (simp; done) | (simp only [← hji24] <;> (first | rfl | simp)) | (simp [*]; done)), (by first | exact H' | (rw [hji24]; exact H') | (simp only [hji24]; exact H')), ⟨by have := HJ1.out; have := HK2.out; first | omega | exact Nat.le_refl _⟩, ⟨by (with_reducible repeat (first | apply Kd.R_alloc | apply Kd.R_drewN | apply Kd.R_drew)); exact HO740.out⟩, ⟨by (with_reducible repeat (first | refine zN ?_ _ | refine zD ?_ | refine zA ?_ _)); exact BK737.out⟩, ⟨by repeat (first | (with_reducible first | exact HB.out | apply yA | apply yN | apply yD | refine below_set ?_ GE737.out) | exact HB.out)⟩⟩
              ·rw [if_neg c25] at H
               exact absurd H (by simp)
             ·rw [if_neg c23] at H
              have c23b0 : decide ((wrap64 (x5_2 + t736)) < (a0.size : Int)) = false := decide_eq_false c23
              clear c23
              (first | rw [c23b0] | (simp only [i64_w, i32_w]; rw [c23b0]) | skip)
              have H' := aM H
              clear H
              go_wp2
              go_meet
              case rel => exact ⟨_, (false), (by first | rfl | (simp; done) | (simp [*]; done)), H', ⟨by have := HJ1.out; have := HK2.out; first | omega | exact Nat.le_refl _⟩, ⟨by (with_reducible repeat (first | apply Kd.R_alloc | apply Kd.R_drewN | apply Kd.R_drew)); exact HO740.out⟩, ⟨by (with_reducible repeat (first | refine zN ?_ _ | refine zD ?_ | refine zA ?_ _)); exact BK737.out⟩, ⟨by repeat (first | (with_reducible first | exact HB.out | apply yA | apply yN | apply yD | refine below_set ?_ GE737.out) | exact HB.out)⟩⟩
            case rest =>
             clear HC18
             try clear c6
             try clear c7
             try clear c7b0
             try clear c7b1
             try clear p8
             try clear q8
             try clear hx8
             try clear qi8
             try clear c9
             try clear c9b0
             try clear c9b1
             try clear c10
             try clear c10b0
             try clear c10b1
             try clear c11
             try clear c11b0
             try clear c11b1
             try clear c13
             try clear c13b0
             try clear c13b1
             try clear c17
             try clear hcz21_0
             try clear hcz21_1
             try clear hcz21_2
             try clear hfz21_0
             try clear hfz21_1
             try clear hfz21_2
             try clear p8
             try clear q8
             obtain ⟨kq, x44_17, rfl, HA, HJ17, HO_4, BK737, HB⟩ := hcut
             cases kq with
             | zero => exact absurd HA.out (by simp [tacticianref02_Read.j2])
             | succ kj17 =>
              have H := HA.out
              clear HA
              simp only [tacticianref02_Read.j2] at H
              by_cases c27 : x44_17 = true
              ·subst c27
               have H1 : (some (y738, wrap64 ((wrap64 (x5_2 + t736)) + 1))) = some (r1, r2) := by rw [if_pos rfl] at H; exact H
               clear H
               have H := H1
               clear H1
               simp only [Option.some.injEq, Prod.mk.injEq] at H
               obtain ⟨rfl, rfl⟩ := H
               go_wp2
               go_ret2
               exact ⟨_, by first | rfl | (simp [errW_none, errW_some] <;> rfl) | (simp [*, errW_none, errW_some] <;> rfl), by (with_reducible repeat (first | apply Kd.R_alloc | apply Kd.R_drewN | apply Kd.R_drew)); exact Kd.R_mono HO_4.out (fun _ hk => trivial), by repeat (first | (with_reducible first | exact HB.out | apply yA | apply yN | apply yD | refine below_set ?_ GE737.out) | exact HB.out)⟩
              ·replace c27 := Bool.eq_false_iff.mpr c27
               subst c27
               have H1 : (if (wrap64 ((wrap64 (x5_2 + t736)) + 2)) > (a0.size : Int) then (some (([] : List (S61)), 0)) else (if 0 ≤ (wrap64 (x5_2 + t736)) then (if (wrap64 (x5_2 + t736)) ≤ (wrap64 ((wrap64 (x5_2 + t736)) + 2)) then (if (wrap64 ((wrap64 (x5_2 + t736)) + 2)) ≤ (a0.size : Int) then (if (a0.extract ((wrap64 (x5_2 + t736)) : Int).toNat ((wrap64 ((wrap64 (x5_2 + t736)) + 2)) : Int).toNat).toList = ([44, 32] : List UInt8) then (tacticianref02_Read.l0 kj17 a0 y738 (wrap64 ((wrap64 (x5_2 + t736)) + 2))) else (some (([] : List (S61)), 0))) else (none)) else (none)) else (none))) = some (r1, r2) := by rw [if_neg (show ¬ (false = true) by decide)] at H; exact H
               clear H
               have H := H1
               clear H1
               by_cases c28 : (wrap64 ((wrap64 (x5_2 + t736)) + 2)) > (a0.size : Int)
               ·rw [if_pos c28] at H
                have c28b0 : decide ((a0.size : Int) < (wrap64 ((wrap64 (x5_2 + t736)) + 2))) = true := decide_eq_true c28
                clear c28
                simp only [Option.some.injEq, Prod.mk.injEq] at H
                obtain ⟨rfl, rfl⟩ := H
                go_wp2
                go_ret2
                exact ⟨_, by first | rfl | (simp [errW_none, errW_some] <;> rfl) | (simp [*, errW_none, errW_some] <;> rfl), by first | exact Kd.R_nil _ _ _ _ _ | exact Kd.N_nil _ _ _ _ _ | exact Kd.V_nil _ _ _ _ _ | exact Kd.Q_nil _ _ _ _ _ | exact Kd.S_nil _ _ _ _ _, by repeat (first | (with_reducible first | exact HB.out | apply yA | apply yN | apply yD | refine below_set ?_ GE737.out) | exact HB.out)⟩
               ·rw [if_neg c28] at H
                have c28b0 : decide ((a0.size : Int) < (wrap64 ((wrap64 (x5_2 + t736)) + 2))) = false := decide_eq_false c28
                clear c28
                obtain ⟨ji29, hji29⟩ : ∃ j_ : Int, (wrap64 (x5_2 + t736)) = j_ := ⟨_, rfl⟩
                replace H : (if 0 ≤ (ji29) then (if (ji29) ≤ (wrap64 ((ji29) + 2)) then (if (wrap64 ((ji29) + 2)) ≤ (a0.size : Int) then (if (a0.extract ((ji29) : Int).toNat ((wrap64 ((ji29) + 2)) : Int).toNat).toList = ([44, 32] : List UInt8) then (tacticianref02_Read.l0 kj17 a0 y738 (wrap64 ((ji29) + 2))) else (some (([] : List (S61)), 0))) else (none)) else (none)) else (none)) = some (r1, r2) := by first | (rw [hji29] at H; exact H) | (simp only [hji29] at H ⊢; exact H)
                (try rw [hji29] at c28b0)
                have hji29w : (IntKind.i64.wrap (x5_2 + t736)) = ji29 := (i64_w _).trans hji29
                by_cases c30 : 0 ≤ (ji29)
                ·rw [if_pos c30] at H
                 have c30b0 := eq_true c30
                 have c30b1 : decide (0 ≤ (ji29)) = true := decide_eq_true c30
                 clear c30
                 by_cases c31 : (ji29) ≤ (wrap64 ((ji29) + 2))
                 ·rw [if_pos c31] at H
                  have c31b0 := eq_true c31
                  have c31b1 : decide ((ji29) ≤ (wrap64 ((ji29) + 2))) = true := decide_eq_true c31
                  by_cases c32 : (wrap64 ((ji29) + 2)) ≤ (a0.size : Int)
                  ·rw [if_pos c32] at H
                   have c32b0 := eq_true c32
                   have c32b1 : decide ((wrap64 ((ji29) + 2)) ≤ (a0.size : Int)) = true := decide_eq_true c32
                   by_cases c33 : (a0.extract ((ji29) : Int).toNat ((wrap64 ((ji29) + 2)) : Int).toNat).toList = ([44, 32] : List UInt8)
                   ·rw [if_pos c33] at H
                    have c33b0 : ((a0.extract ((ji29) : Int).toNat ((wrap64 ((ji29) + 2)) : Int).toNat).toList == ([44, 32] : List UInt8)) = true := beq_iff_eq.mpr c33
                    have c33b1 : ((a0.extract ((ji29) : Int).toNat ((wrap64 ((ji29) + 2)) : Int).toNat).toList != ([44, 32] : List UInt8)) = false := bne_eq_false_iff_eq.mpr c33
                    clear c33
                    have H' := aM H
                    clear H
                    go_wp2
                    go_roundg kj17
                    case measure => have := HJ1.out; have := HK2.out; have := HJ17.out; omega
                    case rel => exact ⟨(y738), (wrap64 ((ji29) + 2)), (by first | rfl | (simp; done) | (simp only [← hji29] <;> (first | rfl | simp)) | (simp [*]; done)), (by first | exact H' | (rw [hji29]; exact H') | (simp only [hji29]; exact H')), ⟨by have := HJ1.out; have := HK2.out; have := HJ17.out; omega⟩, ⟨by (with_reducible repeat (first | apply Kd.R_alloc | apply Kd.R_drewN | apply Kd.R_drew)); exact Kd.R_mono HO_4.out (fun _ hk => trivial)⟩, ⟨by repeat (first | (with_reducible first | exact HB.out | apply yA | apply yN | apply yD | refine below_set ?_ GE737.out) | exact HB.out)⟩⟩
                   ·rw [if_neg c33] at H
                    have c33b0 : ((a0.extract ((ji29) : Int).toNat ((wrap64 ((ji29) + 2)) : Int).toNat).toList == ([44, 32] : List UInt8)) = false := beq_eq_false_iff_ne.mpr c33
                    have c33b1 : ((a0.extract ((ji29) : Int).toNat ((wrap64 ((ji29) + 2)) : Int).toNat).toList != ([44, 32] : List UInt8)) = true := bne_iff_ne.mpr c33
                    simp only [Option.some.injEq, Prod.mk.injEq] at H
                    obtain ⟨rfl, rfl⟩ := H
                    go_wp2
                    go_ret2
                    exact ⟨_, by first | rfl | (simp [errW_none, errW_some] <;> rfl) | (simp only [← hji29]; first | rfl | (simp [errW_none, errW_some] <;> rfl)) | (simp [*, errW_none, errW_some] <;> rfl), by first | exact Kd.R_nil _ _ _ _ _ | exact Kd.N_nil _ _ _ _ _ | exact Kd.V_nil _ _ _ _ _ | exact Kd.Q_nil _ _ _ _ _ | exact Kd.S_nil _ _ _ _ _, by repeat (first | (with_reducible first | exact HB.out | apply yA | apply yN | apply yD | refine below_set ?_ GE737.out) | exact HB.out)⟩
                  ·rw [if_neg c32] at H
                   exact absurd H (by simp)
                 ·rw [if_neg c31] at H
                  exact absurd H (by simp)
                ·rw [if_neg c30] at H
                 exact absurd H (by simp)
           ·rw [if_neg c17] at H
            exact absurd H (by simp)
         ·rw [if_neg c11] at H
          exact absurd H (by simp)
        ·rw [if_neg c10] at H
         exact absurd H (by simp)
    ·rw [if_neg c7] at H
     exact absurd H (by simp)
end Go.Proofs.YtmhobbdedmjmnaaGreatDoor.Q
end
section
namespace Go.Proofs.YtmhobbdedmjmnaaGreatDoor
open Go.RowKit Go.Proofs.YtmhobbdedmjmnaaGreatDoor.Q Go.Proofs.YtmhobbdedmjmnaaGreatDoorW.PrintWords Go.Proofs.YtmhobbdedmjmnaaGreatDoorW.PrintLast Go.Proofs.YtmhobbdedmjmnaaGreatDoorW.PrintMore
theorem valR_le (s : ByteArray) : 0 ≤ (valR s).2.2.2 ∧ (valR s).2.2.2 ≤ (s.size : Int) := by
  have hv : ∀ n, n ≤ s.size → 0 ≤ (valN s n).2.2.2 ∧ (valN s n).2.2.2 ≤ (s.size : Int) := fun n hn => by
    unfold valN
    by_cases h : (readC (s.extract 0 n)).2.2.2 = true
    · rw [if_pos h]; show 0 ≤ (n : Int) ∧ (n : Int) ≤ _; omega
    · rw [if_neg h]; show (0 : Int) ≤ 0 ∧ (0 : Int) ≤ _; omega
  unfold valR
  by_cases h : 0 < s.size ∧ bt s 0 = 39
  · rw [if_pos h]
    cases e : endQ s s.size 1 with
    | none => show (0 : Int) ≤ 0 ∧ (0 : Int) ≤ _; omega
    | some n => exact hv n (endQ_le s _ _ _ e).1
  · rw [if_neg h]
    exact hv _ (endW_le s _ _ (Nat.zero_le _))
theorem bt_extract (s : ByteArray) (a b j : Nat) (h : a + j < b) (hb : b ≤ s.size) : bt (s.extract a b) (j : Int) = bt s ((a + j : Nat) : Int) := by
  have h1 : j < (s.extract a b).size := by rw [ByteArray.size_extract]; omega
  have h2 : a + j < s.size := by omega
  unfold bt
  rw [dif_pos (show (j : Int).toNat < _ by rw [Int.toNat_natCast]; exact h1), dif_pos (show ((a + j : Nat) : Int).toNat < s.size by rw [Int.toNat_natCast]; exact h2)]
  simp only [Int.toNat_natCast]
  congr 2
  simp [ByteArray.getElem_extract]
theorem hasPrefix2 (s : ByteArray) (b c : UInt8) : strings_HasPrefix.f s (⟨#[b, c]⟩ : ByteArray) = some (decide (1 < s.size) && (decide (bt s 0 = (b.toNat : Int)) && decide (bt s 1 = (c.toNat : Int)))) := by
  obtain ⟨⟨d⟩⟩ := s
  have hb : (⟨#[b, c]⟩ : ByteArray).size = 2 := rfl
  unfold strings_HasPrefix.f stringslite_HasPrefix.f
  rw [hb]
  match d with
  | [] => rfl
  | [_] => rfl
  | x :: y :: r =>
    have hz : (⟨⟨x :: y :: r⟩⟩ : ByteArray).size = r.length + 2 := rfl
    have he : ((⟨⟨x :: y :: r⟩⟩ : ByteArray).extract 0 2).toList = [x, y] := by
      rw [ByteArray.toList_eq]
      simp [ByteArray.data_extract]
    have h0 : bt (⟨⟨x :: y :: r⟩⟩ : ByteArray) 0 = (x.toNat : Int) := rfl
    have h1 : bt (⟨⟨x :: y :: r⟩⟩ : ByteArray) 1 = (y.toNat : Int) := rfl
    rw [if_pos (by omega), if_pos (by omega), if_pos (by omega), Option.bind_some, show ((2 : Nat) : Int).toNat = 2 from rfl, he, h0, h1, decide_eq_true (show 1 < (⟨⟨x :: y :: r⟩⟩ : ByteArray).size by omega), Bool.true_and, ByteArray.toList_eq]
    congr 1
    have hu : ∀ u v : UInt8, decide ((u.toNat : Int) = (v.toNat : Int)) = (u == v) := fun u v => by
      by_cases h : u = v
      · subst h; simp
      · have : ¬ (u.toNat : Int) = (v.toNat : Int) := fun e => h (UInt8.toNat_inj.1 (by omega))
        rw [decide_eq_false this]
        simp [h]
    rw [hu, hu]
    simp
theorem two_at (s : ByteArray) (e : Nat) (h : e + 2 ≤ s.size) (b c : UInt8) : (s.extract e (e + 2)).toList = [b, c] ↔ bt s (e : Int) = (b.toNat : Int) ∧ bt s ((e + 1 : Nat) : Int) = (c.toNat : Int) := by
  have hsz : (s.extract e (e + 2)).size = 2 := by rw [ByteArray.size_extract]; omega
  have h0 : bt (s.extract e (e + 2)) 0 = bt s (e : Int) := bt_extract s e (e + 2) 0 (by omega) h
  have h1 : bt (s.extract e (e + 2)) 1 = bt s ((e + 1 : Nat) : Int) := bt_extract s e (e + 2) 1 (by omega) h
  rw [← h0, ← h1]
  generalize s.extract e (e + 2) = t at hsz
  obtain ⟨⟨d⟩⟩ := t
  rw [ByteArray.toList_eq]
  match d, hsz with
  | [x, y], _ =>
    show [x, y] = [b, c] ↔ (x.toNat : Int) = (b.toNat : Int) ∧ (y.toNat : Int) = (c.toNat : Int)
    constructor
    · intro h
      injection h with h1 h2
      injection h2 with h2 _
      rw [h1, h2]
      exact ⟨rfl, rfl⟩
    · rintro ⟨h1, h2⟩
      rw [UInt8.toNat_inj.1 (show x.toNat = b.toNat by omega), UInt8.toNat_inj.1 (show y.toNat = c.toNat by omega)]
def readL (s : ByteArray) : Nat → Nat → List V → List V × Int
  | 0, _, _ => ([], 0)
  | d + 1, a, acc =>
    if (valR (s.extract a s.size)).2.2.2 = 0 then ([], 0) else
      let e := a + (valR (s.extract a s.size)).2.2.2.toNat
      let out := acc ++ [(⟨(valR (s.extract a s.size)).1, (valR (s.extract a s.size)).2.1, (valR (s.extract a s.size)).2.2.1⟩ : V)]
      if e < s.size ∧ bt s (e : Int) = 41 then (out, ((e + 1 : Nat) : Int)) else if e + 2 ≤ s.size ∧ bt s (e : Int) = 44 ∧ bt s ((e + 1 : Nat) : Int) = 32 then readL s d (e + 2) out else ([], 0)
theorem rows_l0 (s : ByteArray) (hs : s.size ≤ 20000) : ∀ (d a k : Nat) (acc : List V), s.size < a + d → a ≤ s.size → acc.length ≤ a → 2 * s.size + 10 + d < k →
    rows_Row.l0 k s (a : Int) acc = some (readL s d a acc) := by
  intro d
  induction d with
  | zero => intro a k acc h1 h2 _ _; omega
  | succ d ih =>
    intro a k acc h1 h2 hacc hk
    obtain ⟨k, rfl⟩ : ∃ m, k = m + 1 := ⟨k - 1, by omega⟩
    have hv : 0 ≤ (valR (s.extract a s.size)).2.2.2 ∧ (valR (s.extract a s.size)).2.2.2 + (a : Int) ≤ (s.size : Int) := by
      have h3 := valR_le (s.extract a s.size)
      rw [ByteArray.size_extract] at h3
      omega
    have hacc2 : acc.length < 4398046511104 := by omega
    have hv2 := rowsValue (s.extract a s.size) (by rw [ByteArray.size_extract]; omega) k (by rw [ByteArray.size_extract]; omega)
    unfold readL
    rw [rows_Row.l0, if_pos (by omega), if_pos (by omega), Int.toNat_natCast, hv2, Option.bind_some]
    clear hv2
    generalize valR (s.extract a s.size) = p at hv ⊢
    by_cases h0 : p.2.2.2 = 0
    · rw [if_pos h0, if_pos h0]
    · obtain ⟨n, hn⟩ : ∃ n : Nat, p.2.2.2 = (n : Int) := ⟨p.2.2.2.toNat, by omega⟩
      rw [if_neg h0, if_neg h0, if_pos hacc2, Option.bind_some, hn]
      rw [hn] at hv h0
      have hna : a + n ≤ s.size := by omega
      have hn0 : 0 < n := by omega
      clear hv h0 hacc2
      have e1 : wrap64 ((a : Int) + (n : Int)) = ((a + n : Nat) : Int) := by rw [wrap_small (by omega) (by omega)]; omega
      have e2 : wrap64 (((a + n : Nat) : Int) + 1) = ((a + n + 1 : Nat) : Int) := by rw [wrap_small (by omega) (by omega)]; omega
      have e3 : wrap64 (((a + n : Nat) : Int) + 2) = ((a + n + 2 : Nat) : Int) := by rw [wrap_small (by omega) (by omega)]; omega
      have z0 : 0 < (s.extract (a + n) s.size).size ↔ a + n < s.size := by rw [ByteArray.size_extract]; omega
      have z1 : 1 < (s.extract (a + n) s.size).size ↔ a + n + 2 ≤ s.size := by rw [ByteArray.size_extract]; omega
      have b0 : a + n < s.size → bt (s.extract (a + n) s.size) 0 = bt s ((a + n : Nat) : Int) := fun h => bt_extract s (a + n) s.size 0 (by omega) (Nat.le_refl _)
      have b1 : a + n + 2 ≤ s.size → bt (s.extract (a + n) s.size) 1 = bt s ((a + n + 1 : Nat) : Int) := fun h => bt_extract s (a + n) s.size 1 (by omega) (Nat.le_refl _)
      rw [e1, e2, e3, if_pos (by omega), if_pos (by omega), Int.toNat_natCast, Int.toNat_natCast, hasPrefix1, hasPrefix2, Option.bind_some]
      dsimp only
      by_cases hc : a + n < s.size ∧ bt s ((a + n : Nat) : Int) = 41
      · rw [if_pos hc, if_pos (by rw [decide_eq_true (z0.2 hc.1), Bool.true_and]; exact decide_eq_true ((b0 hc.1).trans hc.2))]
      · rw [if_neg hc, if_neg (fun e => hc (by
          rw [Bool.and_eq_true, decide_eq_true_eq, decide_eq_true_eq] at e
          exact ⟨z0.1 e.1, (b0 (z0.1 e.1)).symm.trans e.2⟩)), Option.bind_some]
        by_cases h2c : a + n + 2 ≤ s.size ∧ bt s ((a + n : Nat) : Int) = 44 ∧ bt s ((a + n + 1 : Nat) : Int) = 32
        · rw [if_pos h2c, if_pos (by rw [decide_eq_true (z1.2 h2c.1), Bool.true_and, Bool.and_eq_true]; exact ⟨decide_eq_true ((b0 (by omega)).trans h2c.2.1), decide_eq_true ((b1 h2c.1).trans h2c.2.2)⟩)]
          exact ih (a + n + 2) k _ (by omega) (by omega) (by rw [List.length_append, List.length_singleton]; omega) (by omega)
        · rw [if_neg h2c, if_neg (fun e => h2c (by
            rw [Bool.and_eq_true, Bool.and_eq_true, decide_eq_true_eq, decide_eq_true_eq, decide_eq_true_eq] at e
            have h5 := z1.1 e.1
            exact ⟨h5, (b0 (by omega)).symm.trans e.2.1, (b1 h5).symm.trans e.2.2⟩))]
theorem drop_bt (s : ByteArray) (e : Nat) (c : UInt8) (he : e < s.size) (h : bt s (e : Int) = (c.toNat : Int)) : s.data.toList.drop e = c :: s.data.toList.drop (e + 1) := by
  have hl : e < s.data.toList.length := by rw [Array.length_toList]; exact he
  have h2 := bt_get s e he
  rw [h] at h2
  have h3 : s.data.toList[e] = c := UInt8.toNat_inj.1 (by omega)
  rw [List.drop_eq_getElem_cons hl, h3]
theorem data_drop (s : ByteArray) (a : Nat) : (s.extract a s.size).data.toList = s.data.toList.drop a := by
  rw [ByteArray.data_extract, Array.toList_extract]
  rw [List.extract_eq_drop_take', List.take_of_length_le (Nat.le_of_eq (show s.data.toList.length = s.size from Array.length_toList))]
theorem data_take (s : ByteArray) (n : Nat) : (s.extract 0 n).data.toList = s.data.toList.take n := by
  rw [ByteArray.data_extract, Array.toList_extract, List.extract_eq_drop_take', List.drop_zero]
theorem valR_sound (s : ByteArray) (h : (valR s).2.2.2 ≠ 0) : ∃ m : Nat, (valR s).2.2.2 = (m : Int) ∧ 0 < m ∧ m ≤ s.size ∧ okV (valR s).1 (valR s).2.1 (valR s).2.2.1 = true ∧ s.data.toList = writL (valR s).1 (valR s).2.1 (valR s).2.2.1 ++ s.data.toList.drop m := by
  have hv : ∀ n, n ≤ s.size → (valN s n).2.2.2 ≠ 0 → ∃ m : Nat, (valN s n).2.2.2 = (m : Int) ∧ 0 < m ∧ m ≤ s.size ∧ okV (valN s n).1 (valN s n).2.1 (valN s n).2.2.1 = true ∧ s.data.toList = writL (valN s n).1 (valN s n).2.1 (valN s n).2.2.1 ++ s.data.toList.drop m := fun n hn => by
    unfold valN
    by_cases q : (readC (s.extract 0 n)).2.2.2 = true
    · rw [if_pos q]
      intro h0
      have h1 : (n : Int) ≠ 0 := h0
      obtain ⟨z1, z2⟩ := readC_true (s.extract 0 n) (a := (readC (s.extract 0 n)).1) (b := (readC (s.extract 0 n)).2.1) (c := (readC (s.extract 0 n)).2.2.1) (by rw [← q])
      refine ⟨n, rfl, by omega, hn, z1, ?_⟩
      have z3 : (writ (readC (s.extract 0 n)).1 (readC (s.extract 0 n)).2.1 (readC (s.extract 0 n)).2.2.1).data.toList = s.data.toList.take n := by rw [z2, data_take]
      unfold writ at z3
      rw [ofL_data] at z3
      show s.data.toList = writL (readC (s.extract 0 n)).1 (readC (s.extract 0 n)).2.1 (readC (s.extract 0 n)).2.2.1 ++ _
      rw [z3, List.take_append_drop]
    · rw [if_neg q]
      intro h0
      exact absurd rfl h0
  revert h
  unfold valR
  by_cases h : 0 < s.size ∧ bt s 0 = 39
  · rw [if_pos h]
    cases e : endQ s s.size 1 with
    | none => intro h0; exact absurd rfl h0
    | some n => exact hv n (endQ_le s _ _ _ e).1
  · rw [if_neg h]
    exact hv _ (endW_le s _ _ (Nat.zero_le _))
theorem join_two (x : List UInt8) (l : List (List UInt8)) (h : l ≠ []) : Lib.join (x :: l) [44, 32] = x ++ 44 :: 32 :: Lib.join l [44, 32] := by
  cases l with
  | nil => exact absurd rfl h
  | cons y l =>
    rw [Lib.join_cons, Lib.join_cons]
    simp [Lib.joinTail]
theorem join_one (x : List UInt8) : Lib.join [x] [44, 32] = x := by
  rw [Lib.join_cons]; simp [Lib.joinTail]
theorem readL_sound (s : ByteArray) : ∀ (d a : Nat) (acc : List V), a ≤ s.size → (readL s d a acc).2 ≠ 0 → ∃ (l : List V) (m : Nat), readL s d a acc = (acc ++ l, (m : Int)) ∧ l ≠ [] ∧ (∀ v ∈ l, OkV v) ∧ a < m ∧ m ≤ s.size ∧ s.data.toList.drop a = Lib.join (l.map wrL) [44, 32] ++ 41 :: s.data.toList.drop m := by
  intro d
  induction d with
  | zero => intro a acc _ h; exact absurd rfl h
  | succ d ih =>
    intro a acc ha
    unfold readL
    by_cases h0 : (valR (s.extract a s.size)).2.2.2 = 0
    · rw [if_pos h0]
      intro h; exact absurd rfl h
    · rw [if_neg h0]
      obtain ⟨m, h1, h2, h3, h4, h5⟩ := valR_sound (s.extract a s.size) h0
      rw [data_drop] at h5
      rw [ByteArray.size_extract] at h3
      rw [List.drop_drop] at h5
      generalize valR (s.extract a s.size) = p at h0 h1 h4 h5 ⊢
      dsimp only
      have hm : p.2.2.2.toNat = m := by omega
      rw [hm]
      have hw : writL p.1 p.2.1 p.2.2.1 = wrL (⟨p.1, p.2.1, p.2.2.1⟩ : V) := rfl
      rw [hw] at h5
      have hok : OkV (⟨p.1, p.2.1, p.2.2.1⟩ : V) := h4
      generalize (⟨p.1, p.2.1, p.2.2.1⟩ : V) = v at h5 hok ⊢
      by_cases hc : a + m < s.size ∧ bt s ((a + m : Nat) : Int) = 41
      · rw [if_pos hc]
        intro _
        refine ⟨[v], a + m + 1, rfl, by simp, fun u hu => by rw [List.mem_singleton.1 hu]; exact hok, by omega, by omega, ?_⟩
        rw [List.map_cons, List.map_nil, join_one, h5, drop_bt s (a + m) 41 hc.1 hc.2]
      · rw [if_neg hc]
        by_cases hc2 : a + m + 2 ≤ s.size ∧ bt s ((a + m : Nat) : Int) = 44 ∧ bt s ((a + m + 1 : Nat) : Int) = 32
        · rw [if_pos hc2]
          intro h
          obtain ⟨l, z, e1, e2, e3, e4, e5, e6⟩ := ih (a + m + 2) (acc ++ [v]) hc2.1 h
          refine ⟨v :: l, z, by rw [e1, List.append_assoc]; rfl, by simp, fun u hu => ?_, by omega, e5, ?_⟩
          · rcases List.mem_cons.1 hu with rfl | hu
            · exact hok
            · exact e3 u hu
          · rw [List.map_cons, join_two _ _ (by simpa using e2), h5, drop_bt s (a + m) 44 (by omega) hc2.2.1, drop_bt s (a + m + 1) 32 (by omega) hc2.2.2, e6]
            simp
        · rw [if_neg hc2]
          intro h; exact absurd rfl h
def rowR (s : ByteArray) : List V × Int := if 2 ≤ s.size ∧ bt s 0 = 40 then (if bt s 1 = 41 then ([], 2) else readL s (s.size + 1) 1 []) else ([], 0)
theorem rowR_sound (s : ByteArray) (h : (rowR s).2 ≠ 0) : ∃ (l : List V) (m : Nat), rowR s = (l, (m : Int)) ∧ (∀ v ∈ l, OkV v) ∧ 0 < m ∧ m ≤ s.size ∧ s.data.toList = rowL l ++ s.data.toList.drop m := by
  revert h
  unfold rowR
  by_cases h0 : 2 ≤ s.size ∧ bt s 0 = 40
  · rw [if_pos h0]
    have e0 : s.data.toList = 40 :: s.data.toList.drop 1 := drop_bt s 0 40 (by omega) h0.2
    by_cases h1 : bt s 1 = 41
    · rw [if_pos h1]
      intro _
      refine ⟨[], 2, rfl, by simp, by omega, h0.1, ?_⟩
      have e1 : s.data.toList.drop 1 = 41 :: s.data.toList.drop 2 := drop_bt s 1 41 (by omega) h1
      rw [e1] at e0
      exact e0
    · rw [if_neg h1]
      intro h
      obtain ⟨l, m, e1, _, e3, e4, e5, e6⟩ := readL_sound s (s.size + 1) 1 [] (by omega) h
      refine ⟨l, m, by rw [e1]; rfl, e3, by omega, e5, ?_⟩
      unfold rowL
      rw [e6] at e0
      rw [List.cons_append, List.append_assoc]
      exact e0
  · rw [if_neg h0]
    intro h; exact absurd rfl h
def readP : Nat → ByteArray → List (List V) → Option (List (List V))
  | 0, _, _ => none
  | d + 1, s, out => if s.size = 0 then some out else if (rowR s).2 = 0 then none else
      if (rowR s).2.toNat < s.size ∧ bt s (((rowR s).2.toNat : Nat) : Int) = 10 then readP d (s.extract ((rowR s).2.toNat + 1) s.size) (out ++ [(rowR s).1]) else none
theorem readP_sound : ∀ (d : Nat) (s : ByteArray) (out L : List (List V)), readP d s out = some L → ∃ l : List (List V), L = out ++ l ∧ (∀ r ∈ l, ∀ v ∈ r, OkV v) ∧ strR l = s.data.toList
  | 0, _, _, _, h => by cases h
  | d + 1, s, out, L, h => by
    unfold readP at h
    by_cases h0 : s.size = 0
    · rw [if_pos h0] at h
      refine ⟨[], by rw [List.append_nil]; exact (Option.some.inj h).symm, by simp, ?_⟩
      have : s.data.toList.length = 0 := by rw [Array.length_toList]; exact h0
      rw [List.eq_nil_of_length_eq_zero this]
      rfl
    · rw [if_neg h0] at h
      by_cases h1 : (rowR s).2 = 0
      · rw [if_pos h1] at h; cases h
      · rw [if_neg h1] at h
        obtain ⟨r, m, e1, e2, e3, e4, e5⟩ := rowR_sound s h1
        rw [e1] at h
        dsimp only at h
        rw [Int.toNat_natCast] at h
        by_cases h2 : m < s.size ∧ bt s (m : Int) = 10
        · rw [if_pos h2] at h
          obtain ⟨l, f1, f2, f3⟩ := readP_sound d _ _ _ h
          refine ⟨r :: l, by rw [f1, List.append_assoc]; rfl, fun x hx => ?_, ?_⟩
          · rcases List.mem_cons.1 hx with rfl | hx
            · exact e2
            · exact f2 x hx
          · rw [data_drop] at f3
            have e6 := drop_bt s m 10 h2.1 h2.2
            rw [e6, ← f3] at e5
            rw [e5]
            simp [strR]
        · rw [if_neg h2] at h; cases h
theorem refRead_l0 (s : ByteArray) (hs : s.size ≤ 5000) : ∀ (d a k : Nat) (acc : List V), s.size < a + d → a ≤ s.size → acc.length ≤ a → 26010 + 2 * d < k →
    tacticianref02_Read.l0 k s acc (a : Int) = some (readL s d a acc) := by
  intro d
  induction d with
  | zero => intro a k acc h1 h2 _ _; omega
  | succ d ih =>
    intro a k acc h1 h2 hacc hk
    obtain ⟨k, rfl⟩ : ∃ m, k = m + 1 + 1 := ⟨k - 2, by omega⟩
    have hv : 0 ≤ (valR (s.extract a s.size)).2.2.2 ∧ (valR (s.extract a s.size)).2.2.2 + (a : Int) ≤ (s.size : Int) := by
      have h3 := valR_le (s.extract a s.size)
      rw [ByteArray.size_extract] at h3
      omega
    have hacc2 : acc.length < 4398046511104 := by omega
    have hv2 := refValue (s.extract a s.size) (by rw [ByteArray.size_extract]; omega) (k + 1) (by omega)
    unfold readL
    rw [tacticianref02_Read.l0, if_pos (by omega), if_pos (by omega), Int.toNat_natCast, hv2, Option.bind_some]
    clear hv2
    generalize valR (s.extract a s.size) = p at hv ⊢
    by_cases h0 : p.2.2.2 = 0
    · rw [if_pos h0, if_pos h0]
    · obtain ⟨n, hn⟩ : ∃ n : Nat, p.2.2.2 = (n : Int) := ⟨p.2.2.2.toNat, by omega⟩
      rw [if_neg h0, if_neg h0, if_pos hacc2, Option.bind_some, hn]
      rw [hn] at hv h0
      have hna : a + n ≤ s.size := by omega
      have hn0 : 0 < n := by omega
      clear hv h0 hacc2
      have e1 : wrap64 ((a : Int) + (n : Int)) = ((a + n : Nat) : Int) := by rw [wrap_small (by omega) (by omega)]; omega
      have e2 : wrap64 (((a + n : Nat) : Int) + 1) = ((a + n + 1 : Nat) : Int) := by rw [wrap_small (by omega) (by omega)]; omega
      have e3 : wrap64 (((a + n : Nat) : Int) + 2) = ((a + n + 2 : Nat) : Int) := by rw [wrap_small (by omega) (by omega)]; omega
      dsimp only
      rw [e1, Int.toNat_natCast]
      by_cases hc : a + n < s.size ∧ bt s ((a + n : Nat) : Int) = 41
      · rw [if_pos hc, if_pos (by omega), if_pos (by omega), tacticianref02_Read.j2, if_pos (by simpa using hc.2), e2]
      · rw [if_neg hc]
        have hj : ∀ x : Bool, x = false → tacticianref02_Read.j2 (k + 1) s (acc ++ [(⟨p.1, p.2.1, p.2.2.1⟩ : V)]) ((a + n : Nat) : Int) x = some (if a + n + 2 ≤ s.size ∧ bt s ((a + n : Nat) : Int) = 44 ∧ bt s ((a + n + 1 : Nat) : Int) = 32 then readL s d (a + n + 2) (acc ++ [(⟨p.1, p.2.1, p.2.2.1⟩ : V)]) else ([], 0)) := by
          rintro x rfl
          rw [tacticianref02_Read.j2, if_neg (by decide), e3]
          by_cases h4 : a + n + 2 ≤ s.size
          · rw [if_neg (by omega), if_pos (by omega), if_pos (by omega), if_pos (by omega), Int.toNat_natCast, Int.toNat_natCast]
            have h6 := two_at s (a + n) h4 44 32
            by_cases h5 : (s.extract (a + n) (a + n + 2)).toList = [44, 32]
            · rw [if_pos h5, if_pos ⟨h4, h6.1 h5⟩]
              exact ih (a + n + 2) k _ (by omega) (by omega) (by rw [List.length_append, List.length_singleton]; omega) (by omega)
            · rw [if_neg h5, if_neg (fun e => h5 (h6.2 e.2))]
          · rw [if_pos (by omega), if_neg (fun e => h4 e.1)]
        by_cases h7 : a + n < s.size
        · rw [if_pos (by omega), if_pos (by omega)]
          exact hj _ (by
            have : ¬ bt s ((a + n : Nat) : Int) = 41 := fun e => hc ⟨h7, e⟩
            simpa using this)
        · rw [if_neg (by omega)]
          exact hj false rfl
end Go.Proofs.YtmhobbdedmjmnaaGreatDoor
end
