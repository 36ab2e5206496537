/- Each function reached is shown to return what the plain function beside it computes, wherever that is defined (written by a program of ours for this seat). -/
import Derived.Test.YtinhpbmoiamepaaDoorQ0
import Derived.Test.YtinhpbmoiamepaaDoorQ5
import Derived.Test.YtinhpbmoiamepaaDoorQ9
import Derived.Test.YtinhpbmoiamepaaDoorQ14
namespace Go.Proofs.YtinhpbmoiamepaaDoor.Q
open Go.RowKit Go.Proofs.YtinhpbmoiamepaaDoorW.PrintWords Go.Proofs.YtinhpbmoiamepaaDoorW.PrintLast Go.Proofs.YtinhpbmoiamepaaDoorW.PrintMore
attribute [local go_sem] max2_int min2_int max_two min_two max_three min_three max_four min_four   -- for this text's walks alone
set_option linter.unusedVariables false
set_option linter.unusedSimpArgs false

/-! ### tacticianlaw01_ValueParses: function 3 -/
def tacticianlaw01_ValueParses.l0 : Nat → List Int → Int → Option (Bool)
  | 0, _, _ => none
  | k + 1, x6, x7 => if x7 < (x6.length : Int) then (if 0 ≤ x7 then (tacticianlaw01_ValueParses.l0 k (x6.set (x7 : Int).toNat 55) (wrap64 (x7 + 1))) else (none)) else ((value_Parse.f (strOfNums x6)).bind fun bt275 => (if 1 ≤ (x6.length : Int) then ((value_Parse.f (strOfNums (x6.drop 1))).bind fun bt284 => (if bt275.1 = 0 then (if bt275.2.1 = 0 then (if bt275.2.2.1.toList = ([] : List UInt8) then (if bt275.2.2.2 = 2 then (if bt284.1 = 0 then (if bt284.2.1 = 0 then (if bt284.2.2.1.toList = ([] : List UInt8) then (if bt284.2.2.2 = 10 then ((tacticianlaw01_awake.f).bind fun t289 => (some t289)) else (some false)) else (some false)) else (some false)) else (some false)) else (some false)) else (some false)) else (some false)) else (some false))) else (none)))
def tacticianlaw01_ValueParses.f (k : Nat) (a0 : ByteArray) (a1 : Bool) : Option (Bool) := if 0 ≤ (mn (a0.size : Int) 600) then (if (mn (a0.size : Int) 600) ≤ (a0.size : Int) then (if a1 = true then (if 20001 ≤ 281474976710656 then (tacticianlaw01_ValueParses.l0 k (List.replicate 20001 0) 0) else (none)) else ((value_Parse.f (a0.extract 0 ((mn (a0.size : Int) 600) : Int).toNat)).bind fun bt290 => ((tacticianref01_Parse.f k (a0.extract 0 ((mn (a0.size : Int) 600) : Int).toNat)).bind fun bt295 => (if bt295.2.2.2 = true then (if bt290.1 = bt295.1 then (if bt290.2.1 = bt295.2.1 then (if bt290.2.2.1.toList = bt295.2.2.1.toList then (if bt290.2.2.2 = 0 then ((tacticianlaw01_awake.f).bind fun t300 => (some t300)) else (some false)) else (some false)) else (some false)) else (some false)) else (if bt290.1 = 0 then (if bt290.2.1 = 0 then (if bt290.2.2.1.toList = ([] : List UInt8) then (if bt290.2.2.2 = 10 then ((tacticianlaw01_awake.f).bind fun t301 => (some t301)) else (some false)) else (some false)) else (some false)) else (some false)))))) else (none)) else (none)
theorem tacticianlaw01_ValueParses.mono_l : ∀ k, (∀ y0 y1, LeO (tacticianlaw01_ValueParses.l0 k y0 y1) (tacticianlaw01_ValueParses.l0 (k + 1) y0 y1))
  | 0 => fun _ _ r h => by simp [tacticianlaw01_ValueParses.l0] at h
  | k + 1 => by
    have ih0 := tacticianlaw01_ValueParses.mono_l k
    · intro y0 y1
      unfold tacticianlaw01_ValueParses.l0
      repeat' first
      | (with_reducible exact ih0 _ _)
      | (with_reducible exact tacticianref01_Parse.mono _ _)
      | (with_reducible exact LeO.refl _)
      | (with_reducible exact LeO.none _)
      | (with_reducible refine LeO.ite ?_ ?_)
      | (with_reducible refine LeO.bind ?_ (fun _ => ?_))
      | exact ih0 _ _
      | exact tacticianref01_Parse.mono _ _
      | exact LeO.none _
      | refine LeO.ite ?_ ?_
      | refine LeO.bind ?_ (fun _ => ?_)
theorem tacticianlaw01_ValueParses.mono : ∀ a0 a1 k, LeO (tacticianlaw01_ValueParses.f k a0 a1) (tacticianlaw01_ValueParses.f (k + 1) a0 a1) := by
  intro a0 a1 k
  have ih0 := tacticianlaw01_ValueParses.mono_l k
  unfold tacticianlaw01_ValueParses.f
  repeat' first
      | (with_reducible exact ih0 _ _)
      | (with_reducible exact tacticianref01_Parse.mono _ _)
      | (with_reducible exact LeO.refl _)
      | (with_reducible exact LeO.none _)
      | (with_reducible refine LeO.ite ?_ ?_)
      | (with_reducible refine LeO.bind ?_ (fun _ => ?_))
      | exact ih0 _ _
      | exact tacticianref01_Parse.mono _ _
      | exact LeO.none _
      | refine LeO.ite ?_ ?_
      | refine LeO.bind ?_ (fun _ => ?_)
set_option maxHeartbeats 8000000 in
set_option maxRecDepth 100000 in
theorem tacticianlaw01_ValueParses.calls (k : Nat) (a0 : ByteArray) (a1 : Bool) (r : Bool) (w : World) (hL_ : Laid w) (hr_ : Aside0 (r = true)) (h : tacticianlaw01_ValueParses.f k a0 a1 = some r) :
    Calls Tryd.prog 3 #[.string a0, .bool a1] w fun e w' => e = .returned (.bool r) ∧ Below w.heap.size w w' := by
  have hu25 := Tryd.underlying25
  have HLD := Aside0.mk hL_
  clear hL_
  have HB := Aside0.mk (Below.refl w.heap.size w)
  have H : (if 0 ≤ (mn (a0.size : Int) 600) then (if (mn (a0.size : Int) 600) ≤ (a0.size : Int) then (if a1 = true then (if 20001 ≤ 281474976710656 then (tacticianlaw01_ValueParses.l0 k (List.replicate 20001 0) 0) else (none)) else ((value_Parse.f (a0.extract 0 ((mn (a0.size : Int) 600) : Int).toNat)).bind fun bt290 => ((tacticianref01_Parse.f k (a0.extract 0 ((mn (a0.size : Int) 600) : Int).toNat)).bind fun bt295 => (if bt295.2.2.2 = true then (if bt290.1 = bt295.1 then (if bt290.2.1 = bt295.2.1 then (if bt290.2.2.1.toList = bt295.2.2.1.toList then (if bt290.2.2.2 = 0 then ((tacticianlaw01_awake.f).bind fun t300 => (some t300)) else (some false)) else (some false)) else (some false)) else (some false)) else (if bt290.1 = 0 then (if bt290.2.1 = 0 then (if bt290.2.2.1.toList = ([] : List UInt8) then (if bt290.2.2.2 = 10 then ((tacticianlaw01_awake.f).bind fun t301 => (some t301)) else (some false)) else (some false)) else (some false)) else (some false)))))) else (none)) else (none)) = some r := h
  clear h
  obtain ⟨ji3, hji3⟩ : ∃ j_ : Int, (mn (a0.size : Int) 600) = j_ := ⟨_, rfl⟩
  replace H : (if 0 ≤ (ji3) then (if (ji3) ≤ (a0.size : Int) then (if a1 = true then (if 20001 ≤ 281474976710656 then (tacticianlaw01_ValueParses.l0 k (List.replicate 20001 0) 0) else (none)) else ((value_Parse.f (a0.extract 0 ((ji3) : Int).toNat)).bind fun bt290 => ((tacticianref01_Parse.f k (a0.extract 0 ((ji3) : Int).toNat)).bind fun bt295 => (if bt295.2.2.2 = true then (if bt290.1 = bt295.1 then (if bt290.2.1 = bt295.2.1 then (if bt290.2.2.1.toList = bt295.2.2.1.toList then (if bt290.2.2.2 = 0 then ((tacticianlaw01_awake.f).bind fun t300 => (some t300)) else (some false)) else (some false)) else (some false)) else (some false)) else (if bt290.1 = 0 then (if bt290.2.1 = 0 then (if bt290.2.2.1.toList = ([] : List UInt8) then (if bt290.2.2.2 = 10 then ((tacticianlaw01_awake.f).bind fun t301 => (some t301)) else (some false)) else (some false)) else (some false)) else (some false)))))) else (none)) else (none)) = some r := by first | (rw [hji3] at H; exact H) | (simp only [hji3] at H ⊢; exact H)
  (try (have hji3h : ji3 ≤ 600 := by (rw [← hji3]; unfold mn; (repeat' split) <;> omega)))
  (try (have hji3g : ji3 ≤ 64 := by omega))
  (try (have hji3l : 0 ≤ ji3 := by (rw [← hji3]; unfold mn; (repeat' split) <;> omega)))
  (try (have hji3m : 0 ≤ ji3 := by omega))
  have hji3_ : (if 600 < (a0.size : Int) then 600 else (a0.size : Int)) = ji3 := hji3
  by_cases c4 : 0 ≤ (ji3)
  · rw [if_pos c4] at H
    have c4b0 := eq_true c4
    have c4b1 : decide (0 ≤ (ji3)) = true := decide_eq_true c4
    clear c4
    by_cases c5 : (ji3) ≤ (a0.size : Int)
    · rw [if_pos c5] at H
      have c5b0 := eq_true c5
      have c5b1 : decide ((ji3) ≤ (a0.size : Int)) = true := decide_eq_true c5
      clear c5
      by_cases c6 : a1 = true
      · subst c6
        have H1 : (if 20001 ≤ 281474976710656 then (tacticianlaw01_ValueParses.l0 k (List.replicate 20001 0) 0) else (none)) = some r := by rw [if_pos rfl] at H; exact H
        clear H
        have H := H1
        clear H1
        by_cases c7 : 20001 ≤ 281474976710656
        · rw [if_pos c7] at H
          have c7b0 := eq_true c7
          have c7b1 : decide (20001 ≤ 281474976710656) = true := decide_eq_true c7
          clear c7
          obtain ⟨y271, hy271⟩ : ∃ y_ : List Int, y_ = (List.replicate 20001 0) := ⟨_, rfl⟩
          replace H : (tacticianlaw01_ValueParses.l0 k y271 0) = some r := by first | (rw [hy271]; with_reducible exact H) | (have H2_ := (Option.bind_some _ _).symm.trans H; rw [hy271]; with_reducible exact H2_) | (have H2_ := (Option.bind_some _ _).symm.trans H; with_reducible exact H2_) | with_reducible exact H | (rw [hy271]; exact H) | exact H
          have Ny271 := Aside0.mk hy271
          clear hy271
          have H' := Aside0.mk H
          clear H
          go_enter Tryd.func3, Tryd.ntmps3
          go_wp2_with (first | ((with_reducible refine gate_dst (N := 22) rfl ?_); refine Kd.R_make (Kd.int .u8) _ 5 rfl (N := 22) rfl 22 _ _ rfl 20001 rfl rfl Tryd.underlying22 (.int .u8 0) 1 info5 rfl (by decide) (by omega) 0 (ok := fun _ => True) (okp := fun _ => True) rfl (fun _ hk => hk) trivial (by omega) (by omega) (Below.refl _ _) (Nat.le_refl _) ?_; intro v272 w8 ho9 hb hg_ hnew_; clear hg_ hnew_; (first | rw [← Ny271.out] at ho9 | (simp only [Int.reduceToNat] at ho9; rw [← Ny271.out] at ho9)); have n0_ := Aside0.mk (Kd.R_lower ho9 (below_size (by repeat (first | (with_reducible first | exact HB.out | apply below_alloc | apply pw_below_drewN | apply below_drew1) | exact HB.out)))); have n1_ := Aside0.mk (below_step (by repeat (first | (with_reducible first | exact HB.out | apply below_alloc | apply pw_below_drewN | apply below_drew1) | exact HB.out)) hb); clear HB; have HO273 := n0_; have HB := n1_; clear n0_ n1_; clear hb ho9))
          go_loopg [7] k (fun kq v7 w' => ∃ (x6_1 : List Int) (x7_1 : Int), v7 = .int .i64 x7_1 ∧ Aside0 (tacticianlaw01_ValueParses.l0 kq x6_1 x7_1 = some r) ∧ Aside0 (kq ≤ k) ∧ Aside0 (Kd.R (Kd.int .u8) 5 w' w.heap.size (fun _ => True) v272 x6_1) ∧ Aside0 (Below w.heap.size w w'))
          case atStart => exact ⟨(y271), (0), (by first | rfl | (simp; done) | (simp [*]; done)), H', ⟨Nat.le_refl _⟩, ⟨by (with_reducible repeat (first | apply Kd.R_alloc | apply Kd.R_drewN | apply Kd.R_drew)); exact HO273.out⟩, ⟨by repeat (first | (with_reducible first | exact HB.out | apply below_alloc | apply pw_below_drewN | apply below_drew1) | exact HB.out)⟩⟩
          case round =>
            clear H'
            try clear p2
            try clear c3
            try clear c4
            try clear c4b0
            try clear c4b1
            try clear c5
            try clear c5b0
            try clear c5b1
            try clear c6
            try clear c7
            try clear c7b0
            try clear c7b1
            obtain ⟨x6_1, x7_1, rfl, HA, HK1, HO_6, HB⟩ := hrel
            cases gk with
            | zero => exact absurd HA.out (by simp [tacticianlaw01_ValueParses.l0])
            | succ k1 =>
              have H := HA.out
              clear HA
              simp only [tacticianlaw01_ValueParses.l0] at H
              by_cases c10 : x7_1 < (x6_1.length : Int)
              · rw [if_pos c10] at H
                have c10b0 : decide (x7_1 < (x6_1.length : Int)) = true := decide_eq_true c10
                clear c10
                by_cases c11 : 0 ≤ x7_1
                · rw [if_pos c11] at H
                  have c11b0 : decide (0 ≤ x7_1) = true := decide_eq_true c11
                  clear c11
                  obtain ⟨y274, hy274⟩ : ∃ y_ : List Int, y_ = (x6_1.set (x7_1 : Int).toNat 55) := ⟨_, rfl⟩
                  replace H : (tacticianlaw01_ValueParses.l0 k1 y274 (wrap64 (x7_1 + 1))) = some r := by first | (rw [hy274]; with_reducible exact H) | (have H2_ := (Option.bind_some _ _).symm.trans H; rw [hy274]; with_reducible exact H2_) | (have H2_ := (Option.bind_some _ _).symm.trans H; with_reducible exact H2_) | with_reducible exact H | (rw [hy274]; exact H) | exact H
                  have Ny274 := Aside0.mk hy274
                  clear hy274
                  have H' := Aside0.mk H
                  clear H
                  obtain ⟨Ao13, co13, eo13⟩ := Kd.R_slice HO_6.out
                  subst eo13
                  have p12 : 0 ≤ (x7_1 : Int) := of_decide_eq_true (by first | (with_reducible assumption) | assumption)
                  have q12 : (x7_1 : Int) < ((x6_1.length : Int) : Int) := of_decide_eq_true (by first | (with_reducible assumption) | assumption)
                  obtain ⟨go12, co12, eo12, gb12, gl12, cl12, HG12⟩ := Kd.R_form HO_6.out (by omega)
                  (first | cases eo12 | (injection eo12 with ea_ en_ ec_; (first | subst ea_ | (injection ea_ with ea_; subst ea_)); subst ec_; clear en_))
                  have GB12 := Aside0.mk gb12
                  have GG12 := Aside0.mk HG12
                  clear gb12 gl12 HG12
                  obtain ⟨hx12_0, hf12_0⟩ := Kd.R_celln 0 HO_6.out (x7_1 : Int) p12 q12
                  replace p12 := eq_true p12
                  replace q12 := eq_true q12
                  have HP14 := Kd.R_putg HO_6.out (x7_1 : Int) 55
                  go_wp2_with (first | ((with_reducible refine gate_store (t := 5) (p := 31) rfl ?_); refine store_event (t := 5) (p := 31) (v := ?vo_w15) (w1 := (wr.setCell ⟨go12, (x7_1 : Int).toNat, none⟩ (.int .u8 55))) ?hg ?ho ?hn ?hr ?_; (case ho => rfl); (case hg => rfl); (case hn => rfl); (case hr => first | (go_simp; done) | (go_simp; rfl)); intro w15 hw; have hg : wr.grownBy w15 (some go12) := (by rw [hw]; exact HP14.2); have hp_ : Kd.R (Kd.int .u8) 5 w15 w.heap.size (fun _ => True) (.slice (some ⟨go12, 0, none⟩) x6_1.length co13) y274 := (by rw [hw, Ny274.out]; exact HP14.1); clear HP14; have n0_ := Aside0.mk (hp_); have n1_ := Aside0.mk ((by rw [hw]; exact below_set (HB.out) GB12.out : Below w.heap.size w w15)); clear HO_6; clear HB; have HO_6 := n0_; have HB := n1_; clear n0_ n1_; clear hg hw hp_))
                  go_roundg k1
                  case measure => have := HK1.out; omega
                  case rel => exact ⟨(y274), (wrap64 (x7_1 + 1)), (by first | rfl | (simp; done) | (simp [*]; done)), H', ⟨by have := HK1.out; omega⟩, ⟨by (with_reducible repeat (first | apply Kd.R_alloc | apply Kd.R_drewN | apply Kd.R_drew)); exact HO_6.out⟩, ⟨by repeat (first | (with_reducible first | exact HB.out | apply below_alloc | apply pw_below_drewN | apply below_drew1) | exact HB.out)⟩⟩
                · rw [if_neg c11] at H
                  exact absurd H (by simp)
              · rw [if_neg c10] at H
                have c10b0 : decide (x7_1 < (x6_1.length : Int)) = false := decide_eq_false c10
                clear c10
                replace H := Option.bind_eq_some_iff.mp H
                obtain ⟨⟨t275, t276, t277, t278⟩, A160, H⟩ := H
                replace H : (if 1 ≤ (x6_1.length : Int) then ((value_Parse.f (strOfNums (x6_1.drop 1))).bind fun bt284 => (if t275 = 0 then (if t276 = 0 then (if t277.toList = ([] : List UInt8) then (if t278 = 2 then (if bt284.1 = 0 then (if bt284.2.1 = 0 then (if bt284.2.2.1.toList = ([] : List UInt8) then (if bt284.2.2.2 = 10 then ((tacticianlaw01_awake.f).bind fun t289 => (some t289)) else (some false)) else (some false)) else (some false)) else (some false)) else (some false)) else (some false)) else (some false)) else (some false))) else (none)) = some r := H
                have A16 := Aside0.mk A160
                clear A160
                by_cases c17 : 1 ≤ (x6_1.length : Int)
                · rw [if_pos c17] at H
                  have c17b0 := eq_true c17
                  have c17b1 : decide (1 ≤ (x6_1.length : Int)) = true := decide_eq_true c17
                  clear c17
                  obtain ⟨y280, hy280⟩ : ∃ y_ : List Int, y_ = (x6_1.drop 1) := ⟨_, rfl⟩
                  replace H : ((value_Parse.f (strOfNums y280)).bind fun bt284 => (if t275 = 0 then (if t276 = 0 then (if t277.toList = ([] : List UInt8) then (if t278 = 2 then (if bt284.1 = 0 then (if bt284.2.1 = 0 then (if bt284.2.2.1.toList = ([] : List UInt8) then (if bt284.2.2.2 = 10 then ((tacticianlaw01_awake.f).bind fun t289 => (some t289)) else (some false)) else (some false)) else (some false)) else (some false)) else (some false)) else (some false)) else (some false)) else (some false))) = some r := by first | (rw [hy280]; with_reducible exact H) | (have H2_ := (Option.bind_some _ _).symm.trans H; rw [hy280]; with_reducible exact H2_) | (have H2_ := (Option.bind_some _ _).symm.trans H; with_reducible exact H2_) | with_reducible exact H | (rw [hy280]; exact H) | exact H
                  have Ny280 := Aside0.mk hy280
                  clear hy280
                  replace H := Option.bind_eq_some_iff.mp H
                  obtain ⟨⟨t284, t285, t286, t287⟩, A180, H⟩ := H
                  replace H : (if t275 = 0 then (if t276 = 0 then (if t277.toList = ([] : List UInt8) then (if t278 = 2 then (if t284 = 0 then (if t285 = 0 then (if t286.toList = ([] : List UInt8) then (if t287 = 10 then ((tacticianlaw01_awake.f).bind fun t289 => (some t289)) else (some false)) else (some false)) else (some false)) else (some false)) else (some false)) else (some false)) else (some false)) else (some false)) = some r := H
                  have A18 := Aside0.mk A180
                  clear A180
                  by_cases c19 : t275 = 0
                  · rw [if_pos c19] at H
                    have c19b0 : (t275 == 0) = true := beq_iff_eq.mpr c19
                    have c19b1 : (t275 != 0) = false := bne_eq_false_iff_eq.mpr c19
                    clear c19
                    by_cases c20 : t276 = 0
                    · rw [if_pos c20] at H
                      have c20b0 : (t276 == 0) = true := beq_iff_eq.mpr c20
                      have c20b1 : (t276 != 0) = false := bne_eq_false_iff_eq.mpr c20
                      clear c20
                      by_cases c21 : t277.toList = ([] : List UInt8)
                      · rw [if_pos c21] at H
                        have c21b0 : (t277.toList == ([] : List UInt8)) = true := beq_iff_eq.mpr c21
                        have c21b1 : (t277.toList != ([] : List UInt8)) = false := bne_eq_false_iff_eq.mpr c21
                        clear c21
                        by_cases c22 : t278 = 2
                        · rw [if_pos c22] at H
                          have c22b0 : (t278 == 2) = true := beq_iff_eq.mpr c22
                          have c22b1 : (t278 != 2) = false := bne_eq_false_iff_eq.mpr c22
                          clear c22
                          by_cases c23 : t284 = 0
                          · rw [if_pos c23] at H
                            have c23b0 : (t284 == 0) = true := beq_iff_eq.mpr c23
                            have c23b1 : (t284 != 0) = false := bne_eq_false_iff_eq.mpr c23
                            clear c23
                            by_cases c24 : t285 = 0
                            · rw [if_pos c24] at H
                              have c24b0 : (t285 == 0) = true := beq_iff_eq.mpr c24
                              have c24b1 : (t285 != 0) = false := bne_eq_false_iff_eq.mpr c24
                              clear c24
                              by_cases c25 : t286.toList = ([] : List UInt8)
                              · rw [if_pos c25] at H
                                have c25b0 : (t286.toList == ([] : List UInt8)) = true := beq_iff_eq.mpr c25
                                have c25b1 : (t286.toList != ([] : List UInt8)) = false := bne_eq_false_iff_eq.mpr c25
                                clear c25
                                by_cases c26 : t287 = 10
                                · rw [if_pos c26] at H
                                  have c26b0 : (t287 == 10) = true := beq_iff_eq.mpr c26
                                  have c26b1 : (t287 != 10) = false := bne_eq_false_iff_eq.mpr c26
                                  clear c26
                                  replace H := Option.bind_eq_some_iff.mp H
                                  obtain ⟨t289, A270, H⟩ := H
                                  replace H : (some t289) = some r := H
                                  have A27 := Aside0.mk A270
                                  clear A270
                                  obtain rfl := Option.some.inj H
                                  obtain ⟨Ao28, co28, eo28⟩ := Kd.R_slice HO_6.out
                                  subst eo28
                                  have hcv29 := own_string (P := Tryd.prog) Tryd.underlying22 Tryd.underlying5 Tryd.underlying9 (Kd.own_of_R HO_6.out)
                                  go_wp2_with (first | ((with_reducible refine gate_callee (f := 7) rfl ?_); refine goesL_ (some 35) rfl rfl Tryd.func7 (by kernel_rfl) rfl #[.string (strOfNums x6_1)] rfl (by (try simp only [List.map_toArray, List.map_cons, List.map_nil]); first | done | rfl | (simp only [List.length_drop, List.length_take]; rfl)) ?_; (with_reducible refine (value_Parse.calls (strOfNums x6_1) t275 t276 t277 t278 _ ?side1 A16.out).mono ?_); (case side1 => exact Laid.below HLD.out (by repeat (first | (with_reducible first | exact HB.out | apply below_alloc | apply pw_below_drewN | apply below_drew1) | exact HB.out))); rintro e w30 ⟨rfl, hb⟩; refine ⟨_, rfl, ?_⟩; have n0_ := Aside0.mk (Kd.R_below (by (with_reducible repeat (first | apply Kd.R_alloc | apply Kd.R_drewN | apply Kd.R_drew)); exact HO_6.out) hb); have n1_ := Aside0.mk (below_step (by repeat (first | (with_reducible first | exact HB.out | apply below_alloc | apply pw_below_drewN | apply below_drew1) | exact HB.out)) hb); clear HO_6; clear HB; have HO_6 := n0_; have HB := n1_; clear n0_ n1_; (try clear hb); (try clear hb2); (try clear hk); (try clear hi)) | ((with_reducible refine gate_dst (N := 8) rfl ?_); refine box_event ?hg (N := 8) ?hd (cs := #[.int .i64 0, .int .i64 0, .string (⟨#[]⟩ : ByteArray)]) (t := 25) ?hr ?_; (case hd => rfl); (case hg => rfl); (case hr => first | (go_simp; done) | (go_simp; rfl)); intro gb279 hg w31 hbox hb; have n0_ := Aside0.mk (Kd.R_below (by (with_reducible repeat (first | apply Kd.R_alloc | apply Kd.R_drewN | apply Kd.R_drew)); exact HO_6.out) hb); have n1_ := Aside0.mk (below_step (by repeat (first | (with_reducible first | exact HB.out | apply below_alloc | apply pw_below_drewN | apply below_drew1) | exact HB.out)) hb); have n2_ := Aside0.mk (hbox); have n3_ := Aside0.mk ((by rw [hg]; exact (below_size (by repeat (first | (with_reducible first | exact HB.out | apply below_alloc | apply pw_below_drewN | apply below_drew1) | exact HB.out))) : w.heap.size ≤ gb279)); have n4_ := Aside0.mk ((by rw [hg]; exact (below_size (by repeat (first | (with_reducible first | exact HB.out | apply below_alloc | apply pw_below_drewN | apply below_drew1) | exact HB.out))) : w.heap.size ≤ gb279)); clear HO_6; clear HB; have HO_6 := n0_; have HB := n1_; have BK279 := n2_; have GW279 := n3_; have GE279 := n4_; clear n0_ n1_ n2_ n3_ n4_; clear hb hbox hg; have hcz32_0 : w31.cell? ⟨gb279, 0, none⟩ = some (.int .i64 0) := (blk_cell BK279.out 0).trans rfl; have hcz32_1 : w31.cell? ⟨gb279, 1, none⟩ = some (.int .i64 0) := (blk_cell BK279.out 1).trans rfl; have hcz32_2 : w31.cell? ⟨gb279, 2, none⟩ = some (.string (⟨#[]⟩ : ByteArray)) := (blk_cell BK279.out 2).trans rfl; have hfz32_0 := blk_frozen BK279.out 0; have hfz32_1 := blk_frozen BK279.out 1; have hfz32_2 := blk_frozen BK279.out 2) | ((with_reducible refine gate_store (t := 25) (p := 8) rfl ?_); refine store_event (t := 25) (p := 8) (v := ?vo_w33) (w1 := (((w31.setCell ⟨gb279, 0, none⟩ (.int .i64 t275)).setCell ⟨gb279, 1, none⟩ (.int .i64 t276)).setCell ⟨gb279, 2, none⟩ (.string t277))) ?hg ?ho ?hn ?hr ?_; (case ho => rfl); (case hg => rfl); (case hn => rfl); (case hr => first | (go_simp; done) | (go_simp; rfl)); intro w33 hw; have n0_ : Aside0 (Kd.R (Kd.int .u8) 5 w33 w.heap.size (fun _ => True) (.slice Ao28 x6_1.length co28) x6_1) := ⟨(by rw [hw]; exact (by (with_reducible repeat (first | apply Kd.R_alloc | apply Kd.R_drewN | apply Kd.R_drew)); exact Kd.R_mono (Kd.R_far (p := ⟨gb279, 2, none⟩) (Kd.R_far (p := ⟨gb279, 1, none⟩) (Kd.R_far (p := ⟨gb279, 0, none⟩) (Kd.R_types HO_6.out BK279.out (by decide)) (fun _ hk => hk.2) (.int .i64 t275)) (fun _ hk => hk.2) (.int .i64 t276)) (fun _ hk => hk.2) (.string t277)) (fun _ hk => trivial)))⟩; have n1_ : Aside0 (w33.heap[gb279]? = some (.cells #[.int .i64 t275, .int .i64 t276, .string t277] 25 (0, 0))) := ⟨(by rw [hw]; exact (by (with_reducible repeat (first | refine blk_drewN ?_ _ | refine blk_drew ?_ | refine blk_alloc ?_ _)); refine blk_put (cs := #[.int .i64 t275, .int .i64 t276, .string (⟨#[]⟩ : ByteArray)]) ?_ 2 _ rfl; (with_reducible repeat (first | refine blk_drewN ?_ _ | refine blk_drew ?_ | refine blk_alloc ?_ _)); refine blk_put (cs := #[.int .i64 t275, .int .i64 0, .string (⟨#[]⟩ : ByteArray)]) ?_ 1 _ rfl; (with_reducible repeat (first | refine blk_drewN ?_ _ | refine blk_drew ?_ | refine blk_alloc ?_ _)); refine blk_put (cs := #[.int .i64 0, .int .i64 0, .string (⟨#[]⟩ : ByteArray)]) ?_ 0 _ rfl; (with_reducible repeat (first | refine blk_drewN ?_ _ | refine blk_drew ?_ | refine blk_alloc ?_ _)); exact BK279.out))⟩; have n2_ : Aside0 (Below w.heap.size w w33) := ⟨(by rw [hw]; exact (by repeat (first | (with_reducible first | exact HB.out | apply below_alloc | apply pw_below_drewN | apply below_drew1 | refine below_set ?_ GE279.out) | exact HB.out)))⟩; clear hw; clear HO_6; clear BK279; clear HB; have HO_6 := n0_; have BK279 := n1_; have HB := n2_; clear n0_ n1_ n2_; have q34 : (1 : Int) ≤ ((x6_1.length : Int) : Int) := of_decide_eq_true (by first | (with_reducible assumption) | assumption); obtain ⟨i034, hi034, _, hsz34, _⟩ := info_parts info5; have hroom34 : x6_1.length ≤ co28 := (Kd.R_reads' HO_6.out).2.1; have hC34 : Kd.C (Kd.int .u8) _ Ao28 x6_1.length x6_1 := (Kd.R_reads' HO_6.out).2.2; have hcut34 := cut_from (P := Tryd.prog) 22 5 .i64 Tryd.underlying22 hi034 1 hsz34 Ao28 x6_1.length co28 1 (by omega) q34; have hr34 := Kd.C_drop (m := (1 : Int).toNat) (c := co28) hC34 (by omega) hroom34; obtain ⟨A34, hA34⟩ : ∃ A1, A1 = (if co28 = (1 : Int).toNat then Ao28 else (Ao28 : Option Addr).map (·.add ((1 : Int).toNat * 1))) := ⟨_, rfl⟩; obtain ⟨c34, hc34⟩ : ∃ c1, c1 = co28 - (1 : Int).toNat := ⟨_, rfl⟩; have hy34 : y280.length = x6_1.length - (1 : Int).toNat := (by rw [Ny280.out, List.length_drop] <;> omega); rw [show (x6_1).drop (1 : Int).toNat = y280 from Ny280.out.symm] at hr34; replace hr34 : Kd.C (Kd.int .u8) _ A34 y280.length y280 := (by rw [hA34]; exact hr34); rw [← hy34, ← hA34, ← hc34] at hcut34; have HR283 := Aside0.mk hr34; have HC283 := Aside0.mk (show y280.length ≤ c34 from by rw [hy34, hc34]; exact Nat.sub_le_sub_right hroom34 _); clear hr34 hC34 hroom34 hi034 hsz34 hc34; have KY34 := Aside0.mk hy34; have KA34 := Aside0.mk hA34; clear hy34 hA34; have KL34 := Aside0.mk (show 1 ≤ x6_1.length from by omega); replace q34 := eq_true q34; have hcv35 := Kd.C_string (P := Tryd.prog) (A := A34) (c := c34) Tryd.underlying22 Tryd.underlying5 Tryd.underlying9 (by repeat (first | (with_reducible exact HR283.out) | (with_reducible refine Kd.C_alloc ?_ _) | (with_reducible refine Kd.C_drewN ?_ _) | (with_reducible refine Kd.C_drew ?_) | exact HR283.out))) | ((with_reducible refine gate_callee (f := 7) rfl ?_); refine goesL_ (some 42) rfl rfl Tryd.func7 (by kernel_rfl) rfl #[.string (strOfNums y280)] rfl (by (try simp only [List.map_toArray, List.map_cons, List.map_nil]); first | done | rfl | (simp only [List.length_drop, List.length_take]; rfl)) ?_; (with_reducible refine (value_Parse.calls (strOfNums y280) t284 t285 t286 t287 _ ?side1 A18.out).mono ?_); (case side1 => exact Laid.below HLD.out (by repeat (first | (with_reducible first | exact HB.out | apply below_alloc | apply pw_below_drewN | apply below_drew1 | refine below_set ?_ GE279.out) | exact HB.out))); rintro e w36 ⟨rfl, hb⟩; refine ⟨_, rfl, ?_⟩; have n0_ := Aside0.mk (Kd.R_below (by (with_reducible repeat (first | apply Kd.R_alloc | apply Kd.R_drewN | apply Kd.R_drew)); exact HO_6.out) hb); have n1_ := Aside0.mk (blk_below (g := gb279) (o := .cells #[.int .i64 t275, .int .i64 t276, .string t277] 25 (0, 0)) (by (with_reducible repeat (first | refine blk_drewN ?_ _ | refine blk_drew ?_ | refine blk_alloc ?_ _)); exact BK279.out) hb); have n2_ := Aside0.mk (Kd.C_below (by repeat (first | (with_reducible exact HR283.out) | (with_reducible refine Kd.C_alloc ?_ _) | (with_reducible refine Kd.C_drewN ?_ _) | (with_reducible refine Kd.C_drew ?_) | exact HR283.out)) hb); have n3_ := Aside0.mk (below_step (by repeat (first | (with_reducible first | exact HB.out | apply below_alloc | apply pw_below_drewN | apply below_drew1 | refine below_set ?_ GE279.out) | exact HB.out)) hb); clear HO_6; clear BK279; clear HR283; clear HB; have HO_6 := n0_; have BK279 := n1_; have HR283 := n2_; have HB := n3_; clear n0_ n1_ n2_ n3_; (try clear hb); (try clear hb2); (try clear hk); (try clear hi)) | ((with_reducible refine gate_dst (N := 10) rfl ?_); refine box_event ?hg (N := 10) ?hd (cs := #[.int .i64 0, .int .i64 0, .string (⟨#[]⟩ : ByteArray)]) (t := 25) ?hr ?_; (case hd => rfl); (case hg => rfl); (case hr => first | (go_simp; done) | (go_simp; rfl)); intro gb288 hg w37 hbox hb; have n0_ := Aside0.mk (Kd.R_below (by (with_reducible repeat (first | apply Kd.R_alloc | apply Kd.R_drewN | apply Kd.R_drew)); exact HO_6.out) hb); have n1_ := Aside0.mk (blk_below (g := gb279) (o := .cells #[.int .i64 t275, .int .i64 t276, .string t277] 25 (0, 0)) (by (with_reducible repeat (first | refine blk_drewN ?_ _ | refine blk_drew ?_ | refine blk_alloc ?_ _)); exact BK279.out) hb); have n2_ := Aside0.mk (Kd.C_below (by repeat (first | (with_reducible exact HR283.out) | (with_reducible refine Kd.C_alloc ?_ _) | (with_reducible refine Kd.C_drewN ?_ _) | (with_reducible refine Kd.C_drew ?_) | exact HR283.out)) hb); have n3_ := Aside0.mk (below_step (by repeat (first | (with_reducible first | exact HB.out | apply below_alloc | apply pw_below_drewN | apply below_drew1 | refine below_set ?_ GE279.out) | exact HB.out)) hb); have n4_ := Aside0.mk (hbox); have n5_ := Aside0.mk ((by rw [hg]; exact (below_size (by repeat (first | (with_reducible first | exact HB.out | apply below_alloc | apply pw_below_drewN | apply below_drew1 | refine below_set ?_ GE279.out) | exact HB.out))) : w.heap.size ≤ gb288)); have n6_ := Aside0.mk ((by rw [hg]; exact (below_size (by repeat (first | (with_reducible first | exact HB.out | apply below_alloc | apply pw_below_drewN | apply below_drew1 | refine below_set ?_ GE279.out) | exact HB.out))) : w.heap.size ≤ gb288)); have n7_ := Aside0.mk ((by rw [hg]; exact Nat.ne_of_lt (blk_lt (g := gb279) (o := .cells #[.int .i64 t275, .int .i64 t276, .string t277] 25 (0, 0)) (by (with_reducible repeat (first | refine blk_drewN ?_ _ | refine blk_drew ?_ | refine blk_alloc ?_ _)); exact BK279.out)) : gb279 ≠ gb288)); have n8_ := Aside0.mk ((by rw [hg]; exact Nat.ne_of_gt (blk_lt (g := gb279) (o := .cells #[.int .i64 t275, .int .i64 t276, .string t277] 25 (0, 0)) (by (with_reducible repeat (first | refine blk_drewN ?_ _ | refine blk_drew ?_ | refine blk_alloc ?_ _)); exact BK279.out)) : gb288 ≠ gb279)); clear HO_6; clear BK279; clear HR283; clear HB; have HO_6 := n0_; have BK279 := n1_; have HR283 := n2_; have HB := n3_; have BK288 := n4_; have GW288 := n5_; have GE288 := n6_; have NB279_288 := n7_; have NB288_279 := n8_; clear n0_ n1_ n2_ n3_ n4_ n5_ n6_ n7_ n8_; clear hb hbox hg; have hnb38 := NB288_279.out; have hnc38 := NB279_288.out; have hcz39_0 : w37.cell? ⟨gb288, 0, none⟩ = some (.int .i64 0) := (blk_cell BK288.out 0).trans rfl; have hcz39_1 : w37.cell? ⟨gb288, 1, none⟩ = some (.int .i64 0) := (blk_cell BK288.out 1).trans rfl; have hcz39_2 : w37.cell? ⟨gb288, 2, none⟩ = some (.string (⟨#[]⟩ : ByteArray)) := (blk_cell BK288.out 2).trans rfl; have hfz39_0 := blk_frozen BK288.out 0; have hfz39_1 := blk_frozen BK288.out 1; have hfz39_2 := blk_frozen BK288.out 2; have hcz40_0 : w37.cell? ⟨gb279, 0, none⟩ = some (.int .i64 t275) := (blk_cell BK279.out 0).trans rfl; have hcz40_1 : w37.cell? ⟨gb279, 1, none⟩ = some (.int .i64 t276) := (blk_cell BK279.out 1).trans rfl; have hcz40_2 : w37.cell? ⟨gb279, 2, none⟩ = some (.string t277) := (blk_cell BK279.out 2).trans rfl; have hfz40_0 := blk_frozen BK279.out 0; have hfz40_1 := blk_frozen BK279.out 1; have hfz40_2 := blk_frozen BK279.out 2) | (go_at_call 8; (with_reducible refine (tacticianlaw01_awake.calls  t289 _ ?side1 A27.out).mono ?_); (case side1 => exact Laid.below HLD.out (by repeat (first | (with_reducible first | exact HB.out | apply below_alloc | apply pw_below_drewN | apply below_drew1 | refine below_set ?_ GE279.out | refine below_set ?_ GE288.out) | exact HB.out))); rintro e w41 ⟨rfl, hb⟩; have n0_ := Aside0.mk (Kd.R_below (by (with_reducible repeat (first | apply Kd.R_alloc | apply Kd.R_drewN | apply Kd.R_drew)); exact (Kd.R_mono (Kd.R_far (p := ⟨gb288, 2, none⟩) (Kd.R_far (p := ⟨gb288, 1, none⟩) (Kd.R_far (p := ⟨gb288, 0, none⟩) (Kd.R_types HO_6.out BK288.out (by decide)) (fun _ hk => hk.2) (.int .i64 t284)) (fun _ hk => hk.2) (.int .i64 t285)) (fun _ hk => hk.2) (.string t286)) (fun _ h_ => h_.1))) hb); have n1_ := Aside0.mk (blk_below (g := gb279) (o := .cells #[.int .i64 t275, .int .i64 t276, .string t277] 25 (0, 0)) (by (with_reducible repeat (first | refine blk_drewN ?_ _ | refine blk_drew ?_ | refine blk_alloc ?_ _)); refine blk_far ?_ NB279_288.out _; (with_reducible repeat (first | refine blk_drewN ?_ _ | refine blk_drew ?_ | refine blk_alloc ?_ _)); refine blk_far ?_ NB279_288.out _; (with_reducible repeat (first | refine blk_drewN ?_ _ | refine blk_drew ?_ | refine blk_alloc ?_ _)); refine blk_far ?_ NB279_288.out _; (with_reducible repeat (first | refine blk_drewN ?_ _ | refine blk_drew ?_ | refine blk_alloc ?_ _)); exact BK279.out) hb); have n2_ := Aside0.mk (blk_below (g := gb288) (o := .cells #[.int .i64 t284, .int .i64 t285, .string t286] 25 (0, 0)) (by (with_reducible repeat (first | refine blk_drewN ?_ _ | refine blk_drew ?_ | refine blk_alloc ?_ _)); refine blk_put (cs := #[.int .i64 t284, .int .i64 t285, .string (⟨#[]⟩ : ByteArray)]) ?_ 2 _ rfl; (with_reducible repeat (first | refine blk_drewN ?_ _ | refine blk_drew ?_ | refine blk_alloc ?_ _)); refine blk_put (cs := #[.int .i64 t284, .int .i64 0, .string (⟨#[]⟩ : ByteArray)]) ?_ 1 _ rfl; (with_reducible repeat (first | refine blk_drewN ?_ _ | refine blk_drew ?_ | refine blk_alloc ?_ _)); refine blk_put (cs := #[.int .i64 0, .int .i64 0, .string (⟨#[]⟩ : ByteArray)]) ?_ 0 _ rfl; (with_reducible repeat (first | refine blk_drewN ?_ _ | refine blk_drew ?_ | refine blk_alloc ?_ _)); exact BK288.out) hb); have n3_ := Aside0.mk (below_step (by repeat (first | (with_reducible first | exact HB.out | apply below_alloc | apply pw_below_drewN | apply below_drew1 | refine below_set ?_ GE279.out | refine below_set ?_ GE288.out) | exact HB.out)) hb); clear HO_6; clear BK279; clear BK288; clear HB; have HO_6 := n0_; have BK279 := n1_; have BK288 := n2_; have HB := n3_; clear n0_ n1_ n2_ n3_; (try clear hb); (try clear hb2); (try clear hk); (try clear hi)))
                                  go_ret
                                  exact ⟨by first | rfl | (simp [errW_none, errW_some] <;> rfl) | (simp only [← hji3]; first | rfl | (simp [errW_none, errW_some] <;> rfl)) | (simp [*, errW_none, errW_some] <;> rfl), by repeat (first | (with_reducible first | exact HB.out | apply below_alloc | apply pw_below_drewN | apply below_drew1 | refine below_set ?_ GE279.out | refine below_set ?_ GE288.out) | exact HB.out)⟩
                                · rw [if_neg c26] at H
                                  have c26b0 : (t287 == 10) = false := beq_eq_false_iff_ne.mpr c26
                                  have c26b1 : (t287 != 10) = true := bne_iff_ne.mpr c26
                                  exact absurd ((Option.some.inj H).trans hr_.out) (by decide)
                              · rw [if_neg c25] at H
                                have c25b0 : (t286.toList == ([] : List UInt8)) = false := beq_eq_false_iff_ne.mpr c25
                                have c25b1 : (t286.toList != ([] : List UInt8)) = true := bne_iff_ne.mpr c25
                                exact absurd ((Option.some.inj H).trans hr_.out) (by decide)
                            · rw [if_neg c24] at H
                              have c24b0 : (t285 == 0) = false := beq_eq_false_iff_ne.mpr c24
                              have c24b1 : (t285 != 0) = true := bne_iff_ne.mpr c24
                              exact absurd ((Option.some.inj H).trans hr_.out) (by decide)
                          · rw [if_neg c23] at H
                            have c23b0 : (t284 == 0) = false := beq_eq_false_iff_ne.mpr c23
                            have c23b1 : (t284 != 0) = true := bne_iff_ne.mpr c23
                            exact absurd ((Option.some.inj H).trans hr_.out) (by decide)
                        · rw [if_neg c22] at H
                          have c22b0 : (t278 == 2) = false := beq_eq_false_iff_ne.mpr c22
                          have c22b1 : (t278 != 2) = true := bne_iff_ne.mpr c22
                          exact absurd ((Option.some.inj H).trans hr_.out) (by decide)
                      · rw [if_neg c21] at H
                        have c21b0 : (t277.toList == ([] : List UInt8)) = false := beq_eq_false_iff_ne.mpr c21
                        have c21b1 : (t277.toList != ([] : List UInt8)) = true := bne_iff_ne.mpr c21
                        exact absurd ((Option.some.inj H).trans hr_.out) (by decide)
                    · rw [if_neg c20] at H
                      have c20b0 : (t276 == 0) = false := beq_eq_false_iff_ne.mpr c20
                      have c20b1 : (t276 != 0) = true := bne_iff_ne.mpr c20
                      exact absurd ((Option.some.inj H).trans hr_.out) (by decide)
                  · rw [if_neg c19] at H
                    have c19b0 : (t275 == 0) = false := beq_eq_false_iff_ne.mpr c19
                    have c19b1 : (t275 != 0) = true := bne_iff_ne.mpr c19
                    exact absurd ((Option.some.inj H).trans hr_.out) (by decide)
                · rw [if_neg c17] at H
                  exact absurd H (by simp)
        · rw [if_neg c7] at H
          exact absurd H (by simp)
      · replace c6 := Bool.eq_false_iff.mpr c6
        subst c6
        have H1 : ((value_Parse.f (a0.extract 0 ((ji3) : Int).toNat)).bind fun bt290 => ((tacticianref01_Parse.f k (a0.extract 0 ((ji3) : Int).toNat)).bind fun bt295 => (if bt295.2.2.2 = true then (if bt290.1 = bt295.1 then (if bt290.2.1 = bt295.2.1 then (if bt290.2.2.1.toList = bt295.2.2.1.toList then (if bt290.2.2.2 = 0 then ((tacticianlaw01_awake.f).bind fun t300 => (some t300)) else (some false)) else (some false)) else (some false)) else (some false)) else (if bt290.1 = 0 then (if bt290.2.1 = 0 then (if bt290.2.2.1.toList = ([] : List UInt8) then (if bt290.2.2.2 = 10 then ((tacticianlaw01_awake.f).bind fun t301 => (some t301)) else (some false)) else (some false)) else (some false)) else (some false))))) = some r := by rw [if_neg (show ¬ (false = true) by decide)] at H; exact H
        clear H
        have H := H1
        clear H1
        replace H := Option.bind_eq_some_iff.mp H
        obtain ⟨⟨t290, t291, t292, t293⟩, A420, H⟩ := H
        replace H : ((tacticianref01_Parse.f k (a0.extract 0 ((ji3) : Int).toNat)).bind fun bt295 => (if bt295.2.2.2 = true then (if t290 = bt295.1 then (if t291 = bt295.2.1 then (if t292.toList = bt295.2.2.1.toList then (if t293 = 0 then ((tacticianlaw01_awake.f).bind fun t300 => (some t300)) else (some false)) else (some false)) else (some false)) else (some false)) else (if t290 = 0 then (if t291 = 0 then (if t292.toList = ([] : List UInt8) then (if t293 = 10 then ((tacticianlaw01_awake.f).bind fun t301 => (some t301)) else (some false)) else (some false)) else (some false)) else (some false)))) = some r := H
        have A42 := Aside0.mk A420
        clear A420
        replace H := Option.bind_eq_some_iff.mp H
        obtain ⟨⟨t295, t296, t297, t298⟩, A430, H⟩ := H
        replace H : (if t298 = true then (if t290 = t295 then (if t291 = t296 then (if t292.toList = t297.toList then (if t293 = 0 then ((tacticianlaw01_awake.f).bind fun t300 => (some t300)) else (some false)) else (some false)) else (some false)) else (some false)) else (if t290 = 0 then (if t291 = 0 then (if t292.toList = ([] : List UInt8) then (if t293 = 10 then ((tacticianlaw01_awake.f).bind fun t301 => (some t301)) else (some false)) else (some false)) else (some false)) else (some false))) = some r := H
        have A43 := Aside0.mk A430
        clear A430
        by_cases c44 : t298 = true
        · subst c44
          have H1 : (if t290 = t295 then (if t291 = t296 then (if t292.toList = t297.toList then (if t293 = 0 then ((tacticianlaw01_awake.f).bind fun t300 => (some t300)) else (some false)) else (some false)) else (some false)) else (some false)) = some r := by rw [if_pos rfl] at H; exact H
          clear H
          have H := H1
          clear H1
          by_cases c45 : t290 = t295
          · rw [if_pos c45] at H
            have c45b0 : (t290 == t295) = true := beq_iff_eq.mpr c45
            have c45b1 : (t290 != t295) = false := bne_eq_false_iff_eq.mpr c45
            clear c45
            by_cases c46 : t291 = t296
            · rw [if_pos c46] at H
              have c46b0 : (t291 == t296) = true := beq_iff_eq.mpr c46
              have c46b1 : (t291 != t296) = false := bne_eq_false_iff_eq.mpr c46
              clear c46
              by_cases c47 : t292.toList = t297.toList
              · rw [if_pos c47] at H
                have c47b0 : (t292.toList == t297.toList) = true := beq_iff_eq.mpr c47
                have c47b1 : (t292.toList != t297.toList) = false := bne_eq_false_iff_eq.mpr c47
                clear c47
                by_cases c48 : t293 = 0
                · rw [if_pos c48] at H
                  have c48b0 : (t293 == 0) = true := beq_iff_eq.mpr c48
                  have c48b1 : (t293 != 0) = false := bne_eq_false_iff_eq.mpr c48
                  clear c48
                  replace H := Option.bind_eq_some_iff.mp H
                  obtain ⟨t300, A490, H⟩ := H
                  replace H : (some t300) = some r := H
                  have A49 := Aside0.mk A490
                  clear A490
                  obtain rfl := Option.some.inj H
                  go_enter Tryd.func3, Tryd.ntmps3
                  go_wp2_with (first | ((with_reducible refine gate_callee (f := 7) rfl ?_); refine goesL_ (some 66) rfl rfl Tryd.func7 (by kernel_rfl) rfl #[.string (a0.extract 0 ((ji3) : Int).toNat)] rfl (by (try simp only [List.map_toArray, List.map_cons, List.map_nil]); first | done | (simp only [hji3]; rfl) | rfl | (simp only [List.length_drop, List.length_take]; rfl)) ?_; (with_reducible refine (value_Parse.calls (a0.extract 0 ((ji3) : Int).toNat) t290 t291 t292 t293 _ ?side1 A42.out).mono ?_); (case side1 => exact Laid.below HLD.out (by repeat (first | (with_reducible first | exact HB.out | apply below_alloc | apply pw_below_drewN | apply below_drew1) | exact HB.out))); rintro e w50 ⟨rfl, hb⟩; refine ⟨_, rfl, ?_⟩; have n0_ := Aside0.mk (below_step (by repeat (first | (with_reducible first | exact HB.out | apply below_alloc | apply pw_below_drewN | apply below_drew1) | exact HB.out)) hb); clear HB; have HB := n0_; clear n0_; (try clear hb); (try clear hb2); (try clear hk); (try clear hi)) | ((with_reducible refine gate_dst (N := 12) rfl ?_); refine box_event ?hg (N := 12) ?hd (cs := #[.int .i64 0, .int .i64 0, .string (⟨#[]⟩ : ByteArray)]) (t := 25) ?hr ?_; (case hd => rfl); (case hg => rfl); (case hr => first | (go_simp; done) | (go_simp; rfl)); intro gb294 hg w51 hbox hb; have n0_ := Aside0.mk (below_step (by repeat (first | (with_reducible first | exact HB.out | apply below_alloc | apply pw_below_drewN | apply below_drew1) | exact HB.out)) hb); have n1_ := Aside0.mk (hbox); have n2_ := Aside0.mk ((by rw [hg]; exact (below_size (by repeat (first | (with_reducible first | exact HB.out | apply below_alloc | apply pw_below_drewN | apply below_drew1) | exact HB.out))) : w.heap.size ≤ gb294)); have n3_ := Aside0.mk ((by rw [hg]; exact (below_size (by repeat (first | (with_reducible first | exact HB.out | apply below_alloc | apply pw_below_drewN | apply below_drew1) | exact HB.out))) : w.heap.size ≤ gb294)); clear HB; have HB := n0_; have BK294 := n1_; have GW294 := n2_; have GE294 := n3_; clear n0_ n1_ n2_ n3_; clear hb hbox hg; have hcz52_0 : w51.cell? ⟨gb294, 0, none⟩ = some (.int .i64 0) := (blk_cell BK294.out 0).trans rfl; have hcz52_1 : w51.cell? ⟨gb294, 1, none⟩ = some (.int .i64 0) := (blk_cell BK294.out 1).trans rfl; have hcz52_2 : w51.cell? ⟨gb294, 2, none⟩ = some (.string (⟨#[]⟩ : ByteArray)) := (blk_cell BK294.out 2).trans rfl; have hfz52_0 := blk_frozen BK294.out 0; have hfz52_1 := blk_frozen BK294.out 1; have hfz52_2 := blk_frozen BK294.out 2) | ((with_reducible refine gate_callee (f := 9) rfl ?_); refine goesL_ (some 71) rfl rfl Tryd.func9 (by kernel_rfl) rfl #[.string (a0.extract 0 ((ji3) : Int).toNat)] rfl (by (try simp only [List.map_toArray, List.map_cons, List.map_nil]); first | done | (simp only [hji3]; rfl) | rfl | (simp only [List.length_drop, List.length_take]; rfl)) ?_; (with_reducible refine (tacticianref01_Parse.calls k (a0.extract 0 ((ji3) : Int).toNat) t295 t296 t297 true _ A43.out).mono ?_); rintro e w53 ⟨rfl, hb⟩; refine ⟨_, rfl, ?_⟩; have n0_ := Aside0.mk (blk_below (g := gb294) (o := .cells #[.int .i64 t290, .int .i64 t291, .string t292] 25 (0, 0)) (by (with_reducible repeat (first | refine blk_drewN ?_ _ | refine blk_drew ?_ | refine blk_alloc ?_ _)); refine blk_put (cs := #[.int .i64 t290, .int .i64 t291, .string (⟨#[]⟩ : ByteArray)]) ?_ 2 _ rfl; (with_reducible repeat (first | refine blk_drewN ?_ _ | refine blk_drew ?_ | refine blk_alloc ?_ _)); refine blk_put (cs := #[.int .i64 t290, .int .i64 0, .string (⟨#[]⟩ : ByteArray)]) ?_ 1 _ rfl; (with_reducible repeat (first | refine blk_drewN ?_ _ | refine blk_drew ?_ | refine blk_alloc ?_ _)); refine blk_put (cs := #[.int .i64 0, .int .i64 0, .string (⟨#[]⟩ : ByteArray)]) ?_ 0 _ rfl; (with_reducible repeat (first | refine blk_drewN ?_ _ | refine blk_drew ?_ | refine blk_alloc ?_ _)); exact BK294.out) hb); have n1_ := Aside0.mk (below_step (by repeat (first | (with_reducible first | exact HB.out | apply below_alloc | apply pw_below_drewN | apply below_drew1 | refine below_set ?_ GE294.out) | exact HB.out)) hb); clear BK294; clear HB; have BK294 := n0_; have HB := n1_; clear n0_ n1_; (try clear hb); (try clear hb2); (try clear hk); (try clear hi)) | ((with_reducible refine gate_dst (N := 14) rfl ?_); refine box_event ?hg (N := 14) ?hd (cs := #[.int .i64 0, .int .i64 0, .string (⟨#[]⟩ : ByteArray)]) (t := 25) ?hr ?_; (case hd => rfl); (case hg => rfl); (case hr => first | (go_simp; done) | (go_simp; rfl)); intro gb299 hg w54 hbox hb; have n0_ := Aside0.mk (blk_below (g := gb294) (o := .cells #[.int .i64 t290, .int .i64 t291, .string t292] 25 (0, 0)) (by (with_reducible repeat (first | refine blk_drewN ?_ _ | refine blk_drew ?_ | refine blk_alloc ?_ _)); exact BK294.out) hb); have n1_ := Aside0.mk (below_step (by repeat (first | (with_reducible first | exact HB.out | apply below_alloc | apply pw_below_drewN | apply below_drew1 | refine below_set ?_ GE294.out) | exact HB.out)) hb); have n2_ := Aside0.mk (hbox); have n3_ := Aside0.mk ((by rw [hg]; exact (below_size (by repeat (first | (with_reducible first | exact HB.out | apply below_alloc | apply pw_below_drewN | apply below_drew1 | refine below_set ?_ GE294.out) | exact HB.out))) : w.heap.size ≤ gb299)); have n4_ := Aside0.mk ((by rw [hg]; exact (below_size (by repeat (first | (with_reducible first | exact HB.out | apply below_alloc | apply pw_below_drewN | apply below_drew1 | refine below_set ?_ GE294.out) | exact HB.out))) : w.heap.size ≤ gb299)); have n5_ := Aside0.mk ((by rw [hg]; exact Nat.ne_of_lt (blk_lt (g := gb294) (o := .cells #[.int .i64 t290, .int .i64 t291, .string t292] 25 (0, 0)) (by (with_reducible repeat (first | refine blk_drewN ?_ _ | refine blk_drew ?_ | refine blk_alloc ?_ _)); exact BK294.out)) : gb294 ≠ gb299)); have n6_ := Aside0.mk ((by rw [hg]; exact Nat.ne_of_gt (blk_lt (g := gb294) (o := .cells #[.int .i64 t290, .int .i64 t291, .string t292] 25 (0, 0)) (by (with_reducible repeat (first | refine blk_drewN ?_ _ | refine blk_drew ?_ | refine blk_alloc ?_ _)); exact BK294.out)) : gb299 ≠ gb294)); clear BK294; clear HB; have BK294 := n0_; have HB := n1_; have BK299 := n2_; have GW299 := n3_; have GE299 := n4_; have NB294_299 := n5_; have NB299_294 := n6_; clear n0_ n1_ n2_ n3_ n4_ n5_ n6_; clear hb hbox hg; have hnb55 := NB299_294.out; have hnc55 := NB294_299.out; have hcz56_0 : w54.cell? ⟨gb299, 0, none⟩ = some (.int .i64 0) := (blk_cell BK299.out 0).trans rfl; have hcz56_1 : w54.cell? ⟨gb299, 1, none⟩ = some (.int .i64 0) := (blk_cell BK299.out 1).trans rfl; have hcz56_2 : w54.cell? ⟨gb299, 2, none⟩ = some (.string (⟨#[]⟩ : ByteArray)) := (blk_cell BK299.out 2).trans rfl; have hfz56_0 := blk_frozen BK299.out 0; have hfz56_1 := blk_frozen BK299.out 1; have hfz56_2 := blk_frozen BK299.out 2; have hcz57_0 : w54.cell? ⟨gb294, 0, none⟩ = some (.int .i64 t290) := (blk_cell BK294.out 0).trans rfl; have hcz57_1 : w54.cell? ⟨gb294, 1, none⟩ = some (.int .i64 t291) := (blk_cell BK294.out 1).trans rfl; have hcz57_2 : w54.cell? ⟨gb294, 2, none⟩ = some (.string t292) := (blk_cell BK294.out 2).trans rfl; have hfz57_0 := blk_frozen BK294.out 0; have hfz57_1 := blk_frozen BK294.out 1; have hfz57_2 := blk_frozen BK294.out 2) | (go_at_call 8; (with_reducible refine (tacticianlaw01_awake.calls  t300 _ ?side1 A49.out).mono ?_); (case side1 => exact Laid.below HLD.out (by repeat (first | (with_reducible first | exact HB.out | apply below_alloc | apply pw_below_drewN | apply below_drew1 | refine below_set ?_ GE294.out | refine below_set ?_ GE299.out) | exact HB.out))); rintro e w58 ⟨rfl, hb⟩; have n0_ := Aside0.mk (blk_below (g := gb294) (o := .cells #[.int .i64 t290, .int .i64 t291, .string t292] 25 (0, 0)) (by (with_reducible repeat (first | refine blk_drewN ?_ _ | refine blk_drew ?_ | refine blk_alloc ?_ _)); refine blk_far ?_ NB294_299.out _; (with_reducible repeat (first | refine blk_drewN ?_ _ | refine blk_drew ?_ | refine blk_alloc ?_ _)); refine blk_far ?_ NB294_299.out _; (with_reducible repeat (first | refine blk_drewN ?_ _ | refine blk_drew ?_ | refine blk_alloc ?_ _)); refine blk_far ?_ NB294_299.out _; (with_reducible repeat (first | refine blk_drewN ?_ _ | refine blk_drew ?_ | refine blk_alloc ?_ _)); exact BK294.out) hb); have n1_ := Aside0.mk (blk_below (g := gb299) (o := .cells #[.int .i64 t295, .int .i64 t296, .string t297] 25 (0, 0)) (by (with_reducible repeat (first | refine blk_drewN ?_ _ | refine blk_drew ?_ | refine blk_alloc ?_ _)); refine blk_put (cs := #[.int .i64 t295, .int .i64 t296, .string (⟨#[]⟩ : ByteArray)]) ?_ 2 _ rfl; (with_reducible repeat (first | refine blk_drewN ?_ _ | refine blk_drew ?_ | refine blk_alloc ?_ _)); refine blk_put (cs := #[.int .i64 t295, .int .i64 0, .string (⟨#[]⟩ : ByteArray)]) ?_ 1 _ rfl; (with_reducible repeat (first | refine blk_drewN ?_ _ | refine blk_drew ?_ | refine blk_alloc ?_ _)); refine blk_put (cs := #[.int .i64 0, .int .i64 0, .string (⟨#[]⟩ : ByteArray)]) ?_ 0 _ rfl; (with_reducible repeat (first | refine blk_drewN ?_ _ | refine blk_drew ?_ | refine blk_alloc ?_ _)); exact BK299.out) hb); have n2_ := Aside0.mk (below_step (by repeat (first | (with_reducible first | exact HB.out | apply below_alloc | apply pw_below_drewN | apply below_drew1 | refine below_set ?_ GE294.out | refine below_set ?_ GE299.out) | exact HB.out)) hb); clear BK294; clear BK299; clear HB; have BK294 := n0_; have BK299 := n1_; have HB := n2_; clear n0_ n1_ n2_; (try clear hb); (try clear hb2); (try clear hk); (try clear hi)))
                  go_ret
                  exact ⟨by first | rfl | (simp [errW_none, errW_some] <;> rfl) | (simp only [← hji3]; first | rfl | (simp [errW_none, errW_some] <;> rfl)) | (simp [*, errW_none, errW_some] <;> rfl), by repeat (first | (with_reducible first | exact HB.out | apply below_alloc | apply pw_below_drewN | apply below_drew1 | refine below_set ?_ GE294.out | refine below_set ?_ GE299.out) | exact HB.out)⟩
                · rw [if_neg c48] at H
                  have c48b0 : (t293 == 0) = false := beq_eq_false_iff_ne.mpr c48
                  have c48b1 : (t293 != 0) = true := bne_iff_ne.mpr c48
                  exact absurd ((Option.some.inj H).trans hr_.out) (by decide)
              · rw [if_neg c47] at H
                have c47b0 : (t292.toList == t297.toList) = false := beq_eq_false_iff_ne.mpr c47
                have c47b1 : (t292.toList != t297.toList) = true := bne_iff_ne.mpr c47
                exact absurd ((Option.some.inj H).trans hr_.out) (by decide)
            · rw [if_neg c46] at H
              have c46b0 : (t291 == t296) = false := beq_eq_false_iff_ne.mpr c46
              have c46b1 : (t291 != t296) = true := bne_iff_ne.mpr c46
              exact absurd ((Option.some.inj H).trans hr_.out) (by decide)
          · rw [if_neg c45] at H
            have c45b0 : (t290 == t295) = false := beq_eq_false_iff_ne.mpr c45
            have c45b1 : (t290 != t295) = true := bne_iff_ne.mpr c45
            exact absurd ((Option.some.inj H).trans hr_.out) (by decide)
        · replace c44 := Bool.eq_false_iff.mpr c44
          subst c44
          have H1 : (if t290 = 0 then (if t291 = 0 then (if t292.toList = ([] : List UInt8) then (if t293 = 10 then ((tacticianlaw01_awake.f).bind fun t301 => (some t301)) else (some false)) else (some false)) else (some false)) else (some false)) = some r := by rw [if_neg (show ¬ (false = true) by decide)] at H; exact H
          clear H
          have H := H1
          clear H1
          by_cases c59 : t290 = 0
          · rw [if_pos c59] at H
            have c59b0 : (t290 == 0) = true := beq_iff_eq.mpr c59
            have c59b1 : (t290 != 0) = false := bne_eq_false_iff_eq.mpr c59
            clear c59
            by_cases c60 : t291 = 0
            · rw [if_pos c60] at H
              have c60b0 : (t291 == 0) = true := beq_iff_eq.mpr c60
              have c60b1 : (t291 != 0) = false := bne_eq_false_iff_eq.mpr c60
              clear c60
              by_cases c61 : t292.toList = ([] : List UInt8)
              · rw [if_pos c61] at H
                have c61b0 : (t292.toList == ([] : List UInt8)) = true := beq_iff_eq.mpr c61
                have c61b1 : (t292.toList != ([] : List UInt8)) = false := bne_eq_false_iff_eq.mpr c61
                clear c61
                by_cases c62 : t293 = 10
                · rw [if_pos c62] at H
                  have c62b0 : (t293 == 10) = true := beq_iff_eq.mpr c62
                  have c62b1 : (t293 != 10) = false := bne_eq_false_iff_eq.mpr c62
                  clear c62
                  replace H := Option.bind_eq_some_iff.mp H
                  obtain ⟨t301, A630, H⟩ := H
                  replace H : (some t301) = some r := H
                  have A63 := Aside0.mk A630
                  clear A630
                  obtain rfl := Option.some.inj H
                  go_enter Tryd.func3, Tryd.ntmps3
                  go_wp2_with (first | ((with_reducible refine gate_callee (f := 7) rfl ?_); refine goesL_ (some 66) rfl rfl Tryd.func7 (by kernel_rfl) rfl #[.string (a0.extract 0 ((ji3) : Int).toNat)] rfl (by (try simp only [List.map_toArray, List.map_cons, List.map_nil]); first | done | (simp only [hji3]; rfl) | rfl | (simp only [List.length_drop, List.length_take]; rfl)) ?_; (with_reducible refine (value_Parse.calls (a0.extract 0 ((ji3) : Int).toNat) t290 t291 t292 t293 _ ?side1 A42.out).mono ?_); (case side1 => exact Laid.below HLD.out (by repeat (first | (with_reducible first | exact HB.out | apply below_alloc | apply pw_below_drewN | apply below_drew1) | exact HB.out))); rintro e w64 ⟨rfl, hb⟩; refine ⟨_, rfl, ?_⟩; have n0_ := Aside0.mk (below_step (by repeat (first | (with_reducible first | exact HB.out | apply below_alloc | apply pw_below_drewN | apply below_drew1) | exact HB.out)) hb); clear HB; have HB := n0_; clear n0_; (try clear hb); (try clear hb2); (try clear hk); (try clear hi)) | ((with_reducible refine gate_dst (N := 12) rfl ?_); refine box_event ?hg (N := 12) ?hd (cs := #[.int .i64 0, .int .i64 0, .string (⟨#[]⟩ : ByteArray)]) (t := 25) ?hr ?_; (case hd => rfl); (case hg => rfl); (case hr => first | (go_simp; done) | (go_simp; rfl)); intro gb294 hg w65 hbox hb; have n0_ := Aside0.mk (below_step (by repeat (first | (with_reducible first | exact HB.out | apply below_alloc | apply pw_below_drewN | apply below_drew1) | exact HB.out)) hb); have n1_ := Aside0.mk (hbox); have n2_ := Aside0.mk ((by rw [hg]; exact (below_size (by repeat (first | (with_reducible first | exact HB.out | apply below_alloc | apply pw_below_drewN | apply below_drew1) | exact HB.out))) : w.heap.size ≤ gb294)); have n3_ := Aside0.mk ((by rw [hg]; exact (below_size (by repeat (first | (with_reducible first | exact HB.out | apply below_alloc | apply pw_below_drewN | apply below_drew1) | exact HB.out))) : w.heap.size ≤ gb294)); clear HB; have HB := n0_; have BK294 := n1_; have GW294 := n2_; have GE294 := n3_; clear n0_ n1_ n2_ n3_; clear hb hbox hg; have hcz66_0 : w65.cell? ⟨gb294, 0, none⟩ = some (.int .i64 0) := (blk_cell BK294.out 0).trans rfl; have hcz66_1 : w65.cell? ⟨gb294, 1, none⟩ = some (.int .i64 0) := (blk_cell BK294.out 1).trans rfl; have hcz66_2 : w65.cell? ⟨gb294, 2, none⟩ = some (.string (⟨#[]⟩ : ByteArray)) := (blk_cell BK294.out 2).trans rfl; have hfz66_0 := blk_frozen BK294.out 0; have hfz66_1 := blk_frozen BK294.out 1; have hfz66_2 := blk_frozen BK294.out 2) | ((with_reducible refine gate_callee (f := 9) rfl ?_); refine goesL_ (some 71) rfl rfl Tryd.func9 (by kernel_rfl) rfl #[.string (a0.extract 0 ((ji3) : Int).toNat)] rfl (by (try simp only [List.map_toArray, List.map_cons, List.map_nil]); first | done | (simp only [hji3]; rfl) | rfl | (simp only [List.length_drop, List.length_take]; rfl)) ?_; (with_reducible refine (tacticianref01_Parse.calls k (a0.extract 0 ((ji3) : Int).toNat) t295 t296 t297 false _ A43.out).mono ?_); rintro e w67 ⟨rfl, hb⟩; refine ⟨_, rfl, ?_⟩; have n0_ := Aside0.mk (blk_below (g := gb294) (o := .cells #[.int .i64 t290, .int .i64 t291, .string t292] 25 (0, 0)) (by (with_reducible repeat (first | refine blk_drewN ?_ _ | refine blk_drew ?_ | refine blk_alloc ?_ _)); refine blk_put (cs := #[.int .i64 t290, .int .i64 t291, .string (⟨#[]⟩ : ByteArray)]) ?_ 2 _ rfl; (with_reducible repeat (first | refine blk_drewN ?_ _ | refine blk_drew ?_ | refine blk_alloc ?_ _)); refine blk_put (cs := #[.int .i64 t290, .int .i64 0, .string (⟨#[]⟩ : ByteArray)]) ?_ 1 _ rfl; (with_reducible repeat (first | refine blk_drewN ?_ _ | refine blk_drew ?_ | refine blk_alloc ?_ _)); refine blk_put (cs := #[.int .i64 0, .int .i64 0, .string (⟨#[]⟩ : ByteArray)]) ?_ 0 _ rfl; (with_reducible repeat (first | refine blk_drewN ?_ _ | refine blk_drew ?_ | refine blk_alloc ?_ _)); exact BK294.out) hb); have n1_ := Aside0.mk (below_step (by repeat (first | (with_reducible first | exact HB.out | apply below_alloc | apply pw_below_drewN | apply below_drew1 | refine below_set ?_ GE294.out) | exact HB.out)) hb); clear BK294; clear HB; have BK294 := n0_; have HB := n1_; clear n0_ n1_; (try clear hb); (try clear hb2); (try clear hk); (try clear hi)) | ((with_reducible refine gate_dst (N := 14) rfl ?_); refine box_event ?hg (N := 14) ?hd (cs := #[.int .i64 0, .int .i64 0, .string (⟨#[]⟩ : ByteArray)]) (t := 25) ?hr ?_; (case hd => rfl); (case hg => rfl); (case hr => first | (go_simp; done) | (go_simp; rfl)); intro gb299 hg w68 hbox hb; have n0_ := Aside0.mk (blk_below (g := gb294) (o := .cells #[.int .i64 t290, .int .i64 t291, .string t292] 25 (0, 0)) (by (with_reducible repeat (first | refine blk_drewN ?_ _ | refine blk_drew ?_ | refine blk_alloc ?_ _)); exact BK294.out) hb); have n1_ := Aside0.mk (below_step (by repeat (first | (with_reducible first | exact HB.out | apply below_alloc | apply pw_below_drewN | apply below_drew1 | refine below_set ?_ GE294.out) | exact HB.out)) hb); have n2_ := Aside0.mk (hbox); have n3_ := Aside0.mk ((by rw [hg]; exact (below_size (by repeat (first | (with_reducible first | exact HB.out | apply below_alloc | apply pw_below_drewN | apply below_drew1 | refine below_set ?_ GE294.out) | exact HB.out))) : w.heap.size ≤ gb299)); have n4_ := Aside0.mk ((by rw [hg]; exact (below_size (by repeat (first | (with_reducible first | exact HB.out | apply below_alloc | apply pw_below_drewN | apply below_drew1 | refine below_set ?_ GE294.out) | exact HB.out))) : w.heap.size ≤ gb299)); have n5_ := Aside0.mk ((by rw [hg]; exact Nat.ne_of_lt (blk_lt (g := gb294) (o := .cells #[.int .i64 t290, .int .i64 t291, .string t292] 25 (0, 0)) (by (with_reducible repeat (first | refine blk_drewN ?_ _ | refine blk_drew ?_ | refine blk_alloc ?_ _)); exact BK294.out)) : gb294 ≠ gb299)); have n6_ := Aside0.mk ((by rw [hg]; exact Nat.ne_of_gt (blk_lt (g := gb294) (o := .cells #[.int .i64 t290, .int .i64 t291, .string t292] 25 (0, 0)) (by (with_reducible repeat (first | refine blk_drewN ?_ _ | refine blk_drew ?_ | refine blk_alloc ?_ _)); exact BK294.out)) : gb299 ≠ gb294)); clear BK294; clear HB; have BK294 := n0_; have HB := n1_; have BK299 := n2_; have GW299 := n3_; have GE299 := n4_; have NB294_299 := n5_; have NB299_294 := n6_; clear n0_ n1_ n2_ n3_ n4_ n5_ n6_; clear hb hbox hg; have hnb69 := NB299_294.out; have hnc69 := NB294_299.out; have hcz70_0 : w68.cell? ⟨gb299, 0, none⟩ = some (.int .i64 0) := (blk_cell BK299.out 0).trans rfl; have hcz70_1 : w68.cell? ⟨gb299, 1, none⟩ = some (.int .i64 0) := (blk_cell BK299.out 1).trans rfl; have hcz70_2 : w68.cell? ⟨gb299, 2, none⟩ = some (.string (⟨#[]⟩ : ByteArray)) := (blk_cell BK299.out 2).trans rfl; have hfz70_0 := blk_frozen BK299.out 0; have hfz70_1 := blk_frozen BK299.out 1; have hfz70_2 := blk_frozen BK299.out 2; have hcz71_0 : w68.cell? ⟨gb294, 0, none⟩ = some (.int .i64 t290) := (blk_cell BK294.out 0).trans rfl; have hcz71_1 : w68.cell? ⟨gb294, 1, none⟩ = some (.int .i64 t291) := (blk_cell BK294.out 1).trans rfl; have hcz71_2 : w68.cell? ⟨gb294, 2, none⟩ = some (.string t292) := (blk_cell BK294.out 2).trans rfl; have hfz71_0 := blk_frozen BK294.out 0; have hfz71_1 := blk_frozen BK294.out 1; have hfz71_2 := blk_frozen BK294.out 2) | (go_at_call 8; (with_reducible refine (tacticianlaw01_awake.calls  t301 _ ?side1 A63.out).mono ?_); (case side1 => exact Laid.below HLD.out (by repeat (first | (with_reducible first | exact HB.out | apply below_alloc | apply pw_below_drewN | apply below_drew1 | refine below_set ?_ GE294.out | refine below_set ?_ GE299.out) | exact HB.out))); rintro e w72 ⟨rfl, hb⟩; have n0_ := Aside0.mk (blk_below (g := gb294) (o := .cells #[.int .i64 t290, .int .i64 t291, .string t292] 25 (0, 0)) (by (with_reducible repeat (first | refine blk_drewN ?_ _ | refine blk_drew ?_ | refine blk_alloc ?_ _)); refine blk_far ?_ NB294_299.out _; (with_reducible repeat (first | refine blk_drewN ?_ _ | refine blk_drew ?_ | refine blk_alloc ?_ _)); refine blk_far ?_ NB294_299.out _; (with_reducible repeat (first | refine blk_drewN ?_ _ | refine blk_drew ?_ | refine blk_alloc ?_ _)); refine blk_far ?_ NB294_299.out _; (with_reducible repeat (first | refine blk_drewN ?_ _ | refine blk_drew ?_ | refine blk_alloc ?_ _)); exact BK294.out) hb); have n1_ := Aside0.mk (blk_below (g := gb299) (o := .cells #[.int .i64 t295, .int .i64 t296, .string t297] 25 (0, 0)) (by (with_reducible repeat (first | refine blk_drewN ?_ _ | refine blk_drew ?_ | refine blk_alloc ?_ _)); refine blk_put (cs := #[.int .i64 t295, .int .i64 t296, .string (⟨#[]⟩ : ByteArray)]) ?_ 2 _ rfl; (with_reducible repeat (first | refine blk_drewN ?_ _ | refine blk_drew ?_ | refine blk_alloc ?_ _)); refine blk_put (cs := #[.int .i64 t295, .int .i64 0, .string (⟨#[]⟩ : ByteArray)]) ?_ 1 _ rfl; (with_reducible repeat (first | refine blk_drewN ?_ _ | refine blk_drew ?_ | refine blk_alloc ?_ _)); refine blk_put (cs := #[.int .i64 0, .int .i64 0, .string (⟨#[]⟩ : ByteArray)]) ?_ 0 _ rfl; (with_reducible repeat (first | refine blk_drewN ?_ _ | refine blk_drew ?_ | refine blk_alloc ?_ _)); exact BK299.out) hb); have n2_ := Aside0.mk (below_step (by repeat (first | (with_reducible first | exact HB.out | apply below_alloc | apply pw_below_drewN | apply below_drew1 | refine below_set ?_ GE294.out | refine below_set ?_ GE299.out) | exact HB.out)) hb); clear BK294; clear BK299; clear HB; have BK294 := n0_; have BK299 := n1_; have HB := n2_; clear n0_ n1_ n2_; (try clear hb); (try clear hb2); (try clear hk); (try clear hi)))
                  go_ret
                  exact ⟨by first | rfl | (simp [errW_none, errW_some] <;> rfl) | (simp only [← hji3]; first | rfl | (simp [errW_none, errW_some] <;> rfl)) | (simp [*, errW_none, errW_some] <;> rfl), by repeat (first | (with_reducible first | exact HB.out | apply below_alloc | apply pw_below_drewN | apply below_drew1 | refine below_set ?_ GE294.out | refine below_set ?_ GE299.out) | exact HB.out)⟩
                · rw [if_neg c62] at H
                  have c62b0 : (t293 == 10) = false := beq_eq_false_iff_ne.mpr c62
                  have c62b1 : (t293 != 10) = true := bne_iff_ne.mpr c62
                  exact absurd ((Option.some.inj H).trans hr_.out) (by decide)
              · rw [if_neg c61] at H
                have c61b0 : (t292.toList == ([] : List UInt8)) = false := beq_eq_false_iff_ne.mpr c61
                have c61b1 : (t292.toList != ([] : List UInt8)) = true := bne_iff_ne.mpr c61
                exact absurd ((Option.some.inj H).trans hr_.out) (by decide)
            · rw [if_neg c60] at H
              have c60b0 : (t291 == 0) = false := beq_eq_false_iff_ne.mpr c60
              have c60b1 : (t291 != 0) = true := bne_iff_ne.mpr c60
              exact absurd ((Option.some.inj H).trans hr_.out) (by decide)
          · rw [if_neg c59] at H
            have c59b0 : (t290 == 0) = false := beq_eq_false_iff_ne.mpr c59
            have c59b1 : (t290 != 0) = true := bne_iff_ne.mpr c59
            exact absurd ((Option.some.inj H).trans hr_.out) (by decide)
    · rw [if_neg c5] at H
      exact absurd H (by simp)
  · rw [if_neg c4] at H
    exact absurd H (by simp)

end Go.Proofs.YtinhpbmoiamepaaDoor.Q
