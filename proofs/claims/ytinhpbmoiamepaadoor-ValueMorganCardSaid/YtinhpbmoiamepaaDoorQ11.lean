/- Each function reached is shown to return what the plain function beside it computes, wherever that is defined (written by a program of ours for this seat). -/
import Derived.Test.YtinhpbmoiamepaaDoorQ0
import Derived.Test.YtinhpbmoiamepaaDoorQ1
import Derived.Test.YtinhpbmoiamepaaDoorQ7
import Derived.Test.YtinhpbmoiamepaaDoorQ8
import Derived.Test.YtinhpbmoiamepaaDoorQ9
import Derived.Test.YtinhpbmoiamepaaDoorQ10
namespace Go.Proofs.YtinhpbmoiamepaaDoor.Q
open Go.RowKit Go.Proofs.YtinhpbmoiamepaaDoorW.PrintWords Go.Proofs.YtinhpbmoiamepaaDoorW.PrintLast Go.Proofs.YtinhpbmoiamepaaDoorW.PrintMore
attribute [local go_sem] max2_int min2_int max_two min_two max_three min_three max_four min_four   -- for this text's walks alone
set_option linter.unusedVariables false
set_option linter.unusedSimpArgs false

attribute [local go_sem high] eqA25
/-! ### tacticianlaw01_ValueMorgan: function 6 -/
mutual
def tacticianlaw01_ValueMorgan.l0 : Nat → List (S25) → Int → List (S25) → List (S25) → Int → Option (Bool)
  | 0, _, _, _, _, _ => none
  | k + 1, x0, x1, x5, x6, x7 => if x7 < (x0.length : Int) then (tacticianlaw01_ValueMorgan.j1 k x0 x1 x5 x6 x7 (decide (x7 < 12))) else (tacticianlaw01_ValueMorgan.j1 k x0 x1 x5 x6 x7 false)
def tacticianlaw01_ValueMorgan.j1 : Nat → List (S25) → Int → List (S25) → List (S25) → Int → Bool → Option (Bool)
  | 0, _, _, _, _, _, _ => none
  | k + 1, x0, x1, x5, x6, x7, x32 => if x32 = true then ((tacticianref01_Null.f).bind fun bt263 => (if 0 ≤ x7 then (if x7 < (x0.length : Int) then (if ((rd_T25 x0 x7).f0) = 0 then ((value_Not.f bt263.1 bt263.2.1 bt263.2.2).bind fun bt268 => (if bt268.2.2.2 = 0 then (if x5.length < 4398046511104 then (if x6.length < 4398046511104 then (tacticianlaw01_ValueMorgan.l0 k x0 x1 (x5 ++ [(⟨bt263.1, bt263.2.1, bt263.2.2⟩ : S25)]) (x6 ++ [(⟨bt268.1, bt268.2.1, bt268.2.2.1⟩ : S25)]) (wrap64 (x7 + 1))) else (none)) else (none)) else (some false))) else ((tacticianref01_Bool.f ((Int.tmod ((rd_T25 x0 x7).f1) 2) != 0)).bind fun bt280 => ((value_Not.f bt280.1 bt280.2.1 bt280.2.2).bind fun bt283 => (if bt283.2.2.2 = 0 then (if x5.length < 4398046511104 then (if x6.length < 4398046511104 then (tacticianlaw01_ValueMorgan.l0 k x0 x1 (x5 ++ [(⟨bt280.1, bt280.2.1, bt280.2.2⟩ : S25)]) (x6 ++ [(⟨bt283.1, bt283.2.1, bt283.2.2.1⟩ : S25)]) (wrap64 (x7 + 1))) else (none)) else (none)) else (some false))))) else (none)) else (none))) else ((value_And.f x5).bind fun bt294 => ((value_Or.f x6).bind fun bt299 => (if bt294.2.2.2 = 0 then (tacticianlaw01_ValueMorgan.j2 k x1 x5 (bt299.2.2.2 != 0) bt294.1 bt294.2.1 bt294.2.2.1 bt299.1 bt299.2.1 bt299.2.2.1) else (tacticianlaw01_ValueMorgan.j2 k x1 x5 true bt294.1 bt294.2.1 bt294.2.2.1 bt299.1 bt299.2.1 bt299.2.2.1))))
def tacticianlaw01_ValueMorgan.j2 : Nat → Int → List (S25) → Bool → Int → Int → ByteArray → Int → Int → ByteArray → Option (Bool)
  | 0, _, _, _, _, _, _, _, _, _ => none
  | k + 1, x1, x5, x80, x299000, x299001, x299002, x304000, x304001, x304002 => if x80 = true then (some false) else ((value_Not.f x299000 x299001 x299002).bind fun bt304 => (if bt304.2.2.2 = 0 then (tacticianlaw01_ValueMorgan.j3 k x1 x5 (!(bt304.1 == x304000) || (!(bt304.2.1 == x304001) || (!(bt304.2.2.1.toList == x304002.toList)))) x299000 x299001 x299002) else (tacticianlaw01_ValueMorgan.j3 k x1 x5 true x299000 x299001 x299002)))
def tacticianlaw01_ValueMorgan.j3 : Nat → Int → List (S25) → Bool → Int → Int → ByteArray → Option (Bool)
  | 0, _, _, _, _, _, _ => none
  | k + 1, x1, x5, x92, x299000, x299001, x299002 => if x92 = true then (some false) else (if (x5.length : Int) > 0 then (if (x5.length : Int) = 0 then (none) else (tacticianlaw01_ValueMorgan.j4 k x5 (Int.tmod (wrap64 (x1)) (x5.length : Int)) x299000 x299001 x299002)) else (tacticianlaw01_ValueMorgan.j4 k x5 0 x299000 x299001 x299002))
def tacticianlaw01_ValueMorgan.j4 : Nat → List (S25) → Int → Int → Int → ByteArray → Option (Bool)
  | 0, _, _, _, _, _ => none
  | k + 1, x5, x17, x299000, x299001, x299002 => (some (([] : List (S25)) : List (S25))).bind fun y309 => (if 0 ≤ x17 then (if x17 ≤ (x5.length : Int) then ((some (x5.drop (x17 : Int).toNat : List (S25))).bind fun y312 => (if y309.length + y312.length < 4398046511104 then ((some (y309 ++ y312 : List (S25))).bind fun y316 => (if y316.length + x5.length < 4398046511104 then ((some (y316 ++ x5 : List (S25))).bind fun y319 => ((value_And.f y319).bind fun bt322 => ((value_Or.f x5).bind fun bt327 => ((value_Or.f y319).bind fun bt332 => (if bt322.2.2.2 = 0 then (if (x299000 == bt322.1 && (x299001 == bt322.2.1 && (x299002.toList == bt322.2.2.1.toList))) = true then (if bt327.2.2.2 = 0 then (if bt332.2.2.2 = 0 then (if (bt327.1 == bt332.1 && (bt327.2.1 == bt332.2.1 && (bt327.2.2.1.toList == bt332.2.2.1.toList))) = true then ((tacticianlaw01_awake.f).bind fun t337 => (some t337)) else (some false)) else (some false)) else (some false)) else (some false)) else (some false)))))) else (none))) else (none))) else (none)) else (none))
end
def tacticianlaw01_ValueMorgan.f (k : Nat) (l0 : List (S25)) (a1 : Int) : Option (Bool) := tacticianlaw01_ValueMorgan.l0 k l0 a1 ([] : List (S25)) ([] : List (S25)) 0
theorem tacticianlaw01_ValueMorgan.mono_l : ∀ k, (∀ y0 y1 y2 y3 y4, LeO (tacticianlaw01_ValueMorgan.l0 k y0 y1 y2 y3 y4) (tacticianlaw01_ValueMorgan.l0 (k + 1) y0 y1 y2 y3 y4)) ∧ (∀ y0 y1 y2 y3 y4 y5, LeO (tacticianlaw01_ValueMorgan.j1 k y0 y1 y2 y3 y4 y5) (tacticianlaw01_ValueMorgan.j1 (k + 1) y0 y1 y2 y3 y4 y5)) ∧ (∀ y0 y1 y2 y3 y4 y5 y6 y7 y8, LeO (tacticianlaw01_ValueMorgan.j2 k y0 y1 y2 y3 y4 y5 y6 y7 y8) (tacticianlaw01_ValueMorgan.j2 (k + 1) y0 y1 y2 y3 y4 y5 y6 y7 y8)) ∧ (∀ y0 y1 y2 y3 y4 y5, LeO (tacticianlaw01_ValueMorgan.j3 k y0 y1 y2 y3 y4 y5) (tacticianlaw01_ValueMorgan.j3 (k + 1) y0 y1 y2 y3 y4 y5)) ∧ (∀ y0 y1 y2 y3 y4, LeO (tacticianlaw01_ValueMorgan.j4 k y0 y1 y2 y3 y4) (tacticianlaw01_ValueMorgan.j4 (k + 1) y0 y1 y2 y3 y4))
  | 0 => ⟨fun _ _ _ _ _ r h => by simp [tacticianlaw01_ValueMorgan.l0] at h, fun _ _ _ _ _ _ r h => by simp [tacticianlaw01_ValueMorgan.j1] at h, fun _ _ _ _ _ _ _ _ _ r h => by simp [tacticianlaw01_ValueMorgan.j2] at h, fun _ _ _ _ _ _ r h => by simp [tacticianlaw01_ValueMorgan.j3] at h, fun _ _ _ _ _ r h => by simp [tacticianlaw01_ValueMorgan.j4] at h⟩
  | k + 1 => by
    obtain ⟨ih0, ih1, ih2, ih3, ih4⟩ := tacticianlaw01_ValueMorgan.mono_l k
    refine ⟨?_, ?_, ?_, ?_, ?_⟩
    · intro y0 y1 y2 y3 y4
      unfold tacticianlaw01_ValueMorgan.l0
      repeat' first
      | (with_reducible exact ih0 _ _ _ _ _)
      | (with_reducible exact ih1 _ _ _ _ _ _)
      | (with_reducible exact ih2 _ _ _ _ _ _ _ _ _)
      | (with_reducible exact ih3 _ _ _ _ _ _)
      | (with_reducible exact ih4 _ _ _ _ _)
      | (with_reducible exact LeO.refl _)
      | (with_reducible exact LeO.none _)
      | (with_reducible refine LeO.ite ?_ ?_)
      | (with_reducible refine LeO.bind ?_ (fun _ => ?_))
      | exact ih0 _ _ _ _ _
      | exact ih1 _ _ _ _ _ _
      | exact ih2 _ _ _ _ _ _ _ _ _
      | exact ih3 _ _ _ _ _ _
      | exact ih4 _ _ _ _ _
      | exact LeO.none _
      | refine LeO.ite ?_ ?_
      | refine LeO.bind ?_ (fun _ => ?_)
    · intro y0 y1 y2 y3 y4 y5
      unfold tacticianlaw01_ValueMorgan.j1
      repeat' first
      | (with_reducible exact ih0 _ _ _ _ _)
      | (with_reducible exact ih1 _ _ _ _ _ _)
      | (with_reducible exact ih2 _ _ _ _ _ _ _ _ _)
      | (with_reducible exact ih3 _ _ _ _ _ _)
      | (with_reducible exact ih4 _ _ _ _ _)
      | (with_reducible exact LeO.refl _)
      | (with_reducible exact LeO.none _)
      | (with_reducible refine LeO.ite ?_ ?_)
      | (with_reducible refine LeO.bind ?_ (fun _ => ?_))
      | exact ih0 _ _ _ _ _
      | exact ih1 _ _ _ _ _ _
      | exact ih2 _ _ _ _ _ _ _ _ _
      | exact ih3 _ _ _ _ _ _
      | exact ih4 _ _ _ _ _
      | exact LeO.none _
      | refine LeO.ite ?_ ?_
      | refine LeO.bind ?_ (fun _ => ?_)
    · intro y0 y1 y2 y3 y4 y5 y6 y7 y8
      unfold tacticianlaw01_ValueMorgan.j2
      repeat' first
      | (with_reducible exact ih0 _ _ _ _ _)
      | (with_reducible exact ih1 _ _ _ _ _ _)
      | (with_reducible exact ih2 _ _ _ _ _ _ _ _ _)
      | (with_reducible exact ih3 _ _ _ _ _ _)
      | (with_reducible exact ih4 _ _ _ _ _)
      | (with_reducible exact LeO.refl _)
      | (with_reducible exact LeO.none _)
      | (with_reducible refine LeO.ite ?_ ?_)
      | (with_reducible refine LeO.bind ?_ (fun _ => ?_))
      | exact ih0 _ _ _ _ _
      | exact ih1 _ _ _ _ _ _
      | exact ih2 _ _ _ _ _ _ _ _ _
      | exact ih3 _ _ _ _ _ _
      | exact ih4 _ _ _ _ _
      | exact LeO.none _
      | refine LeO.ite ?_ ?_
      | refine LeO.bind ?_ (fun _ => ?_)
    · intro y0 y1 y2 y3 y4 y5
      unfold tacticianlaw01_ValueMorgan.j3
      repeat' first
      | (with_reducible exact ih0 _ _ _ _ _)
      | (with_reducible exact ih1 _ _ _ _ _ _)
      | (with_reducible exact ih2 _ _ _ _ _ _ _ _ _)
      | (with_reducible exact ih3 _ _ _ _ _ _)
      | (with_reducible exact ih4 _ _ _ _ _)
      | (with_reducible exact LeO.refl _)
      | (with_reducible exact LeO.none _)
      | (with_reducible refine LeO.ite ?_ ?_)
      | (with_reducible refine LeO.bind ?_ (fun _ => ?_))
      | exact ih0 _ _ _ _ _
      | exact ih1 _ _ _ _ _ _
      | exact ih2 _ _ _ _ _ _ _ _ _
      | exact ih3 _ _ _ _ _ _
      | exact ih4 _ _ _ _ _
      | exact LeO.none _
      | refine LeO.ite ?_ ?_
      | refine LeO.bind ?_ (fun _ => ?_)
    · intro y0 y1 y2 y3 y4
      unfold tacticianlaw01_ValueMorgan.j4
      repeat' first
      | (with_reducible exact ih0 _ _ _ _ _)
      | (with_reducible exact ih1 _ _ _ _ _ _)
      | (with_reducible exact ih2 _ _ _ _ _ _ _ _ _)
      | (with_reducible exact ih3 _ _ _ _ _ _)
      | (with_reducible exact ih4 _ _ _ _ _)
      | (with_reducible exact LeO.refl _)
      | (with_reducible exact LeO.none _)
      | (with_reducible refine LeO.ite ?_ ?_)
      | (with_reducible refine LeO.bind ?_ (fun _ => ?_))
      | exact ih0 _ _ _ _ _
      | exact ih1 _ _ _ _ _ _
      | exact ih2 _ _ _ _ _ _ _ _ _
      | exact ih3 _ _ _ _ _ _
      | exact ih4 _ _ _ _ _
      | exact LeO.none _
      | refine LeO.ite ?_ ?_
      | refine LeO.bind ?_ (fun _ => ?_)
theorem tacticianlaw01_ValueMorgan.mono : ∀ a0 a1 k, LeO (tacticianlaw01_ValueMorgan.f k a0 a1) (tacticianlaw01_ValueMorgan.f (k + 1) a0 a1) := by
  intro a0 a1 k
  obtain ⟨ih0, ih1, ih2, ih3, ih4⟩ := tacticianlaw01_ValueMorgan.mono_l k
  unfold tacticianlaw01_ValueMorgan.f
  repeat' first
      | (with_reducible exact ih0 _ _ _ _ _)
      | (with_reducible exact ih1 _ _ _ _ _ _)
      | (with_reducible exact ih2 _ _ _ _ _ _ _ _ _)
      | (with_reducible exact ih3 _ _ _ _ _ _)
      | (with_reducible exact ih4 _ _ _ _ _)
      | (with_reducible exact LeO.refl _)
      | (with_reducible exact LeO.none _)
      | (with_reducible refine LeO.ite ?_ ?_)
      | (with_reducible refine LeO.bind ?_ (fun _ => ?_))
      | exact ih0 _ _ _ _ _
      | exact ih1 _ _ _ _ _ _
      | exact ih2 _ _ _ _ _ _ _ _ _
      | exact ih3 _ _ _ _ _ _
      | exact ih4 _ _ _ _ _
      | exact LeO.none _
      | refine LeO.ite ?_ ?_
      | refine LeO.bind ?_ (fun _ => ?_)
set_option maxHeartbeats 8000000 in
set_option maxRecDepth 100000 in
theorem tacticianlaw01_ValueMorgan.calls (k : Nat) (A0 : Option Addr) (c0 : Nat) (l0 : List (S25)) (a1 : Int) (r : Bool) (w : World) (hr0 : Kd.C k25 w A0 l0.length l0) (hc0 : l0.length ≤ c0) (hL_ : Laid w) (hr_ : Aside0 (r = true)) (h : tacticianlaw01_ValueMorgan.f k l0 a1 = some r) :
    Calls Tryd.prog 6 #[.slice A0 l0.length c0, .int .u8 a1] w fun e w' => e = .returned (.bool r) ∧ Below w.heap.size w w' := by
  have hu25 := Tryd.underlying25
  have HLD := Aside0.mk hL_
  clear hL_
  have HR0 := Aside0.mk hr0
  have HC0 := Aside0.mk hc0
  clear hr0 hc0
  have HB := Aside0.mk (Below.refl w.heap.size w)
  have H : (tacticianlaw01_ValueMorgan.l0 k l0 a1 ([] : List (S25)) ([] : List (S25)) 0) = some r := h
  clear h
  have H' := Aside0.mk H
  clear H
  go_enter Tryd.func6, Tryd.ntmps6
  go_wp2
  go_loopg [5, 6, 7] k (fun kq v5 v6 v7 w' => ∃ (x5_1 : List (S25)) (x6_1 : List (S25)) (x7_1 : Int), v7 = .int .i64 x7_1 ∧ Aside0 (tacticianlaw01_ValueMorgan.l0 kq l0 a1 x5_1 x6_1 x7_1 = some r) ∧ Aside0 (kq ≤ k) ∧ Aside0 (Kd.R k25 25 w' w.heap.size (fun k_ => some k_ ≠ (v6 : Value).ownBlock) v5 x5_1) ∧ Aside0 (Kd.R k25 25 w' w.heap.size (fun k_ => some k_ ≠ (v5 : Value).ownBlock) v6 x6_1) ∧ Aside0 (Below w.heap.size w w'))
  case atStart => exact ⟨(([] : List (S25))), (([] : List (S25))), (0), (by first | rfl | (simp; done) | (simp [*]; done)), H', ⟨Nat.le_refl _⟩, ⟨by first | exact Kd.R_nil _ _ _ _ _ | exact Kd.N_nil _ _ _ _ _ | exact Kd.V_nil _ _ _ _ _ | exact Kd.Q_nil _ _ _ _ _ | exact Kd.S_nil _ _ _ _ _⟩, ⟨by first | exact Kd.R_nil _ _ _ _ _ | exact Kd.N_nil _ _ _ _ _ | exact Kd.V_nil _ _ _ _ _ | exact Kd.Q_nil _ _ _ _ _ | exact Kd.S_nil _ _ _ _ _⟩, ⟨by repeat (first | (with_reducible first | exact HB.out | apply yA | apply yN | apply yD) | exact HB.out)⟩⟩
  case round =>
    clear H'
    try clear p2
    obtain ⟨x5_1, x6_1, x7_1, rfl, HA, HK1, HO_5, HO_6, HB⟩ := hrel
    cases gk with
    | zero => exact absurd HA.out (by simp [tacticianlaw01_ValueMorgan.l0])
    | succ k1 =>
      have H := HA.out
      clear HA
      simp only [tacticianlaw01_ValueMorgan.l0] at H
      have HC3 := Aside0.mk H
      clear H
      go_upto_region 3 with (fail)
      go_cut [32] (fun v32 wc => ∃ (kq : Nat) (x32_2 : Bool), v32 = .bool x32_2 ∧ Aside0 (tacticianlaw01_ValueMorgan.j1 kq l0 a1 x5_1 x6_1 x7_1 x32_2 = some r) ∧ Aside0 (kq ≤ k1) ∧ Aside0 (Kd.R k25 25 wc w.heap.size (fun k_ => some k_ ≠ (u6 : Value).ownBlock) u5 x5_1) ∧ Aside0 (Kd.R k25 25 wc w.heap.size (fun k_ => some k_ ≠ (u5 : Value).ownBlock) u6 x6_1) ∧ Aside0 (Below w.heap.size w wc))
      case first =>
        have H := HC3.out
        clear HC3
        by_cases c4 : x7_1 < (l0.length : Int)
        · rw [if_pos c4] at H
          have c4b0 : decide (x7_1 < (l0.length : Int)) = true := decide_eq_true c4
          clear c4
          (first | rw [c4b0] | (simp only [i64_w, i32_w]; rw [c4b0]) | skip)
          have H' := Aside0.mk H
          clear H
          go_wp2
          go_meet
          case rel => exact ⟨_, (decide (x7_1 < 12)), (by first | rfl | (simp; done) | (simp [*]; done)), H', ⟨by have := HK1.out; first | omega | exact Nat.le_refl _⟩, ⟨by (with_reducible repeat (first | apply Kd.R_alloc | apply Kd.R_drewN | apply Kd.R_drew)); exact HO_5.out⟩, ⟨by (with_reducible repeat (first | apply Kd.R_alloc | apply Kd.R_drewN | apply Kd.R_drew)); exact HO_6.out⟩, ⟨by repeat (first | (with_reducible first | exact HB.out | apply yA | apply yN | apply yD) | exact HB.out)⟩⟩
        · rw [if_neg c4] at H
          have c4b0 : decide (x7_1 < (l0.length : Int)) = false := decide_eq_false c4
          clear c4
          (first | rw [c4b0] | (simp only [i64_w, i32_w]; rw [c4b0]) | skip)
          have H' := Aside0.mk H
          clear H
          go_wp2
          go_meet
          case rel => exact ⟨_, (false), (by first | rfl | (simp; done) | (simp [*]; done)), H', ⟨by have := HK1.out; first | omega | exact Nat.le_refl _⟩, ⟨by (with_reducible repeat (first | apply Kd.R_alloc | apply Kd.R_drewN | apply Kd.R_drew)); exact HO_5.out⟩, ⟨by (with_reducible repeat (first | apply Kd.R_alloc | apply Kd.R_drewN | apply Kd.R_drew)); exact HO_6.out⟩, ⟨by repeat (first | (with_reducible first | exact HB.out | apply yA | apply yN | apply yD) | exact HB.out)⟩⟩
      case rest =>
        clear HC3
        try clear p2
        try clear c4
        try clear c4b0
        try clear p2
        obtain ⟨kq, x32_2, rfl, HA, HJ2, HO_5, HO_6, HB⟩ := hcut
        cases kq with
        | zero => exact absurd HA.out (by simp [tacticianlaw01_ValueMorgan.j1])
        | succ kj2 =>
          have H := HA.out
          clear HA
          simp only [tacticianlaw01_ValueMorgan.j1] at H
          by_cases c5 : x32_2 = true
          · subst c5
            have H1 : ((tacticianref01_Null.f).bind fun bt263 => (if 0 ≤ x7_1 then (if x7_1 < (l0.length : Int) then (if ((rd_T25 l0 x7_1).f0) = 0 then ((value_Not.f bt263.1 bt263.2.1 bt263.2.2).bind fun bt268 => (if bt268.2.2.2 = 0 then (if x5_1.length < 4398046511104 then (if x6_1.length < 4398046511104 then (tacticianlaw01_ValueMorgan.l0 kj2 l0 a1 (x5_1 ++ [(⟨bt263.1, bt263.2.1, bt263.2.2⟩ : S25)]) (x6_1 ++ [(⟨bt268.1, bt268.2.1, bt268.2.2.1⟩ : S25)]) (wrap64 (x7_1 + 1))) else (none)) else (none)) else (some false))) else ((tacticianref01_Bool.f ((Int.tmod ((rd_T25 l0 x7_1).f1) 2) != 0)).bind fun bt280 => ((value_Not.f bt280.1 bt280.2.1 bt280.2.2).bind fun bt283 => (if bt283.2.2.2 = 0 then (if x5_1.length < 4398046511104 then (if x6_1.length < 4398046511104 then (tacticianlaw01_ValueMorgan.l0 kj2 l0 a1 (x5_1 ++ [(⟨bt280.1, bt280.2.1, bt280.2.2⟩ : S25)]) (x6_1 ++ [(⟨bt283.1, bt283.2.1, bt283.2.2.1⟩ : S25)]) (wrap64 (x7_1 + 1))) else (none)) else (none)) else (some false))))) else (none)) else (none))) = some r := by rw [if_pos rfl] at H; exact H
            clear H
            have H := H1
            clear H1
            replace H := Option.bind_eq_some_iff.mp H
            obtain ⟨⟨t263, t264, t265⟩, A60, H⟩ := H
            replace H : (if 0 ≤ x7_1 then (if x7_1 < (l0.length : Int) then (if ((rd_T25 l0 x7_1).f0) = 0 then ((value_Not.f t263 t264 t265).bind fun bt268 => (if bt268.2.2.2 = 0 then (if x5_1.length < 4398046511104 then (if x6_1.length < 4398046511104 then (tacticianlaw01_ValueMorgan.l0 kj2 l0 a1 (x5_1 ++ [(⟨t263, t264, t265⟩ : S25)]) (x6_1 ++ [(⟨bt268.1, bt268.2.1, bt268.2.2.1⟩ : S25)]) (wrap64 (x7_1 + 1))) else (none)) else (none)) else (some false))) else ((tacticianref01_Bool.f ((Int.tmod ((rd_T25 l0 x7_1).f1) 2) != 0)).bind fun bt280 => ((value_Not.f bt280.1 bt280.2.1 bt280.2.2).bind fun bt283 => (if bt283.2.2.2 = 0 then (if x5_1.length < 4398046511104 then (if x6_1.length < 4398046511104 then (tacticianlaw01_ValueMorgan.l0 kj2 l0 a1 (x5_1 ++ [(⟨bt280.1, bt280.2.1, bt280.2.2⟩ : S25)]) (x6_1 ++ [(⟨bt283.1, bt283.2.1, bt283.2.2.1⟩ : S25)]) (wrap64 (x7_1 + 1))) else (none)) else (none)) else (some false))))) else (none)) else (none)) = some r := H
            have A6 := Aside0.mk A60
            clear A60
            by_cases c7 : 0 ≤ x7_1
            · rw [if_pos c7] at H
              have c7b0 : decide (0 ≤ x7_1) = true := decide_eq_true c7
              clear c7
              by_cases c8 : x7_1 < (l0.length : Int)
              · rw [if_pos c8] at H
                have c8b0 : decide (x7_1 < (l0.length : Int)) = true := decide_eq_true c8
                clear c8
                by_cases c9 : ((rd_T25 l0 x7_1).f0) = 0
                · rw [if_pos c9] at H
                  have c9b0 : (((rd_T25 l0 x7_1).f0) == 0) = true := beq_iff_eq.mpr c9
                  have c9b1 : (((rd_T25 l0 x7_1).f0) != 0) = false := bne_eq_false_iff_eq.mpr c9
                  clear c9
                  replace H := Option.bind_eq_some_iff.mp H
                  obtain ⟨⟨t268, t269, t270, t271⟩, A100, H⟩ := H
                  replace H : (if t271 = 0 then (if x5_1.length < 4398046511104 then (if x6_1.length < 4398046511104 then (tacticianlaw01_ValueMorgan.l0 kj2 l0 a1 (x5_1 ++ [(⟨t263, t264, t265⟩ : S25)]) (x6_1 ++ [(⟨t268, t269, t270⟩ : S25)]) (wrap64 (x7_1 + 1))) else (none)) else (none)) else (some false)) = some r := H
                  have A10 := Aside0.mk A100
                  clear A100
                  by_cases c11 : t271 = 0
                  · rw [if_pos c11] at H
                    have c11b0 : (t271 == 0) = true := beq_iff_eq.mpr c11
                    have c11b1 : (t271 != 0) = false := bne_eq_false_iff_eq.mpr c11
                    clear c11
                    by_cases c12 : x5_1.length < 4398046511104
                    · rw [if_pos c12] at H
                      have LMc12 := Aside0.mk c12
                      clear c12
                      obtain ⟨y273, hy273⟩ : ∃ y_ : List (S25), y_ = (x5_1 ++ [(⟨t263, t264, t265⟩ : S25)]) := ⟨_, rfl⟩
                      replace H : (if x6_1.length < 4398046511104 then (tacticianlaw01_ValueMorgan.l0 kj2 l0 a1 y273 (x6_1 ++ [(⟨t268, t269, t270⟩ : S25)]) (wrap64 (x7_1 + 1))) else (none)) = some r := by first | (rw [hy273]; with_reducible exact H) | (have H2_ := (Option.bind_some _ _).symm.trans H; rw [hy273]; with_reducible exact H2_) | (have H2_ := (Option.bind_some _ _).symm.trans H; with_reducible exact H2_) | with_reducible exact H | (rw [hy273]; exact H) | exact H
                      have Ny273 := Aside0.mk hy273
                      clear hy273
                      by_cases c13 : x6_1.length < 4398046511104
                      · rw [if_pos c13] at H
                        have LMc13 := Aside0.mk c13
                        clear c13
                        obtain ⟨y276, hy276⟩ : ∃ y_ : List (S25), y_ = (x6_1 ++ [(⟨t268, t269, t270⟩ : S25)]) := ⟨_, rfl⟩
                        replace H : (tacticianlaw01_ValueMorgan.l0 kj2 l0 a1 y273 y276 (wrap64 (x7_1 + 1))) = some r := by first | (rw [hy276]; with_reducible exact H) | (have H2_ := (Option.bind_some _ _).symm.trans H; rw [hy276]; with_reducible exact H2_) | (have H2_ := (Option.bind_some _ _).symm.trans H; with_reducible exact H2_) | with_reducible exact H | (rw [hy276]; exact H) | exact H
                        have Ny276 := Aside0.mk hy276
                        clear hy276
                        have H' := Aside0.mk H
                        clear H
                        go_wp2_with (first | ((with_reducible refine gate_callee (f := 19) rfl ?_); refine goesL_ (some 35) rfl rfl Tryd.func19 (by kernel_rfl) rfl #[] rfl (by (try simp only [List.map_toArray, List.map_cons, List.map_nil]); first | done | rfl | (simp only [List.length_drop, List.length_take]; rfl)) ?_; (with_reducible refine (tacticianref01_Null.calls  t263 t264 t265 _ A6.out).mono ?_); rintro e w14 ⟨rfl, hb⟩; refine ⟨_, rfl, ?_⟩; have n0_ := Aside0.mk (Kd.R_below (by (with_reducible repeat (first | apply Kd.R_alloc | apply Kd.R_drewN | apply Kd.R_drew)); exact HO_5.out) hb); have n1_ := Aside0.mk (Kd.R_below (by (with_reducible repeat (first | apply Kd.R_alloc | apply Kd.R_drewN | apply Kd.R_drew)); exact HO_6.out) hb); have n2_ := Aside0.mk (below_step (by repeat (first | (with_reducible first | exact HB.out | apply yA | apply yN | apply yD) | exact HB.out)) hb); clear HO_5; clear HO_6; clear HB; have HO_5 := n0_; have HO_6 := n1_; have HB := n2_; clear n0_ n1_ n2_; (try clear hb); (try clear hb2); (try clear hk); (try clear hi)) | ((with_reducible refine gate_dst (N := 8) rfl ?_); refine box_event ?hg (N := 8) ?hd (cs := #[.int .i64 0, .int .i64 0, .string (⟨#[]⟩ : ByteArray)]) (t := 25) ?hr ?_; (case hd => rfl); (case hg => rfl); (case hr => first | (go_simp; done) | (go_simp; rfl)); intro gb266 hg w15 hbox hb; have n0_ := Aside0.mk (Kd.R_below (Kd.R_elderB (by (with_reducible repeat (first | apply Kd.R_alloc | apply Kd.R_drewN | apply Kd.R_drew)); exact HO_5.out) gb266 (Nat.le_of_eq hg.symm)) hb); have n1_ := Aside0.mk (Kd.R_below (Kd.R_elderB (by (with_reducible repeat (first | apply Kd.R_alloc | apply Kd.R_drewN | apply Kd.R_drew)); exact HO_6.out) gb266 (Nat.le_of_eq hg.symm)) hb); have n2_ := Aside0.mk (below_step (by repeat (first | (with_reducible first | exact HB.out | apply yA | apply yN | apply yD) | exact HB.out)) hb); have n3_ := Aside0.mk (hbox); have n4_ := Aside0.mk ((by rw [hg]; exact (below_size (by repeat (first | (with_reducible first | exact HB.out | apply yA | apply yN | apply yD) | exact HB.out))) : w.heap.size ≤ gb266)); have n5_ := Aside0.mk ((by rw [hg]; exact (below_size (by repeat (first | (with_reducible first | exact HB.out | apply yA | apply yN | apply yD) | exact HB.out))) : w.heap.size ≤ gb266)); clear HO_5; clear HO_6; clear HB; have HO_5 := n0_; have HO_6 := n1_; have HB := n2_; have BK266 := n3_; have GW266 := n4_; have GE266 := n5_; clear n0_ n1_ n2_ n3_ n4_ n5_; clear hb hbox hg; have hcz16_0 : w15.cell? ⟨gb266, 0, none⟩ = some (.int .i64 0) := (blk_cell BK266.out 0).trans rfl; have hcz16_1 : w15.cell? ⟨gb266, 1, none⟩ = some (.int .i64 0) := (blk_cell BK266.out 1).trans rfl; have hcz16_2 : w15.cell? ⟨gb266, 2, none⟩ = some (.string (⟨#[]⟩ : ByteArray)) := (blk_cell BK266.out 2).trans rfl; have hfz16_0 := blk_frozen BK266.out 0; have hfz16_1 := blk_frozen BK266.out 1; have hfz16_2 := blk_frozen BK266.out 2; have p267 : 0 ≤ (x7_1 : Int) := of_decide_eq_true (by first | (with_reducible assumption) | assumption); have q267 : x7_1 < (l0.length : Int) := of_decide_eq_true (by first | (with_reducible assumption) | assumption); obtain ⟨ad267, e267, hx267_0, hx267_1, hx267_2⟩ := at_T25 HR0.out x7_1 p267 q267; cases e267; have hn267_0 : ad267.block ≠ gb266 := Nat.ne_of_lt (Nat.lt_of_lt_of_le (by have := World.block_lt_of_cell? _ _ hx267_0; first | rwa [add_block] at this | exact this) GW266.out); have hn267_1 : ad267.block ≠ gb266 := Nat.ne_of_lt (Nat.lt_of_lt_of_le (by have := World.block_lt_of_cell? _ _ hx267_0; first | rwa [add_block] at this | exact this) GW266.out); have hn267_2 : ad267.block ≠ gb266 := Nat.ne_of_lt (Nat.lt_of_lt_of_le (by have := World.block_lt_of_cell? _ _ hx267_0; first | rwa [add_block] at this | exact this) GW266.out); replace hx267_0 := (HB.out.cell (World.block_lt_of_cell? w _ hx267_0)).trans hx267_0; replace hx267_1 := (HB.out.cell (World.block_lt_of_cell? w _ hx267_1)).trans hx267_1; replace hx267_2 := (HB.out.cell (World.block_lt_of_cell? w _ hx267_2)).trans hx267_2; replace hx267_0 := (cell_far (p := ⟨gb266, 0, none⟩) (by first | (rw [add_block]; exact hn267_0) | (show (Addr.add _ _).block ≠ _; rw [add_block]; exact hn267_0) | exact hn267_0) (.int .i64 t263)).trans hx267_0; replace hx267_1 := (cell_far (p := ⟨gb266, 0, none⟩) (by first | (rw [add_block]; exact hn267_0) | (show (Addr.add _ _).block ≠ _; rw [add_block]; exact hn267_0) | exact hn267_0) (.int .i64 t263)).trans hx267_1; replace hx267_2 := (cell_far (p := ⟨gb266, 0, none⟩) (by first | (rw [add_block]; exact hn267_0) | (show (Addr.add _ _).block ≠ _; rw [add_block]; exact hn267_0) | exact hn267_0) (.int .i64 t263)).trans hx267_2; replace hx267_0 := (cell_far (p := ⟨gb266, 1, none⟩) (by first | (rw [add_block]; exact hn267_1) | (show (Addr.add _ _).block ≠ _; rw [add_block]; exact hn267_1) | exact hn267_1) (.int .i64 t264)).trans hx267_0; replace hx267_1 := (cell_far (p := ⟨gb266, 1, none⟩) (by first | (rw [add_block]; exact hn267_1) | (show (Addr.add _ _).block ≠ _; rw [add_block]; exact hn267_1) | exact hn267_1) (.int .i64 t264)).trans hx267_1; replace hx267_2 := (cell_far (p := ⟨gb266, 1, none⟩) (by first | (rw [add_block]; exact hn267_1) | (show (Addr.add _ _).block ≠ _; rw [add_block]; exact hn267_1) | exact hn267_1) (.int .i64 t264)).trans hx267_2; replace hx267_0 := (cell_far (p := ⟨gb266, 2, none⟩) (by first | (rw [add_block]; exact hn267_2) | (show (Addr.add _ _).block ≠ _; rw [add_block]; exact hn267_2) | exact hn267_2) (.string t265)).trans hx267_0; replace hx267_1 := (cell_far (p := ⟨gb266, 2, none⟩) (by first | (rw [add_block]; exact hn267_2) | (show (Addr.add _ _).block ≠ _; rw [add_block]; exact hn267_2) | exact hn267_2) (.string t265)).trans hx267_1; replace hx267_2 := (cell_far (p := ⟨gb266, 2, none⟩) (by first | (rw [add_block]; exact hn267_2) | (show (Addr.add _ _).block ≠ _; rw [add_block]; exact hn267_2) | exact hn267_2) (.string t265)).trans hx267_2; clear hn267_0; clear hn267_1; clear hn267_2; replace p267 := eq_true p267; replace q267 := eq_true q267) | ((with_reducible refine gate_callee (f := 21) rfl ?_); refine goesL_ (some 52) rfl rfl Tryd.func21 (by kernel_rfl) rfl #[.agg #[.int .i64 t263, .int .i64 t264, .string t265]] rfl (by (try simp only [List.map_toArray, List.map_cons, List.map_nil]); first | done | rfl | (simp only [List.length_drop, List.length_take]; rfl)) ?_; (with_reducible refine (value_Not.calls t263 t264 t265 t268 t269 t270 t271 _ A10.out).mono ?_); rintro e w17 ⟨rfl, hb⟩; refine ⟨_, rfl, ?_⟩; have n0_ := Aside0.mk (Kd.R_below (by (with_reducible repeat (first | apply Kd.R_alloc | apply Kd.R_drewN | apply Kd.R_drew)); exact (Kd.R_mono (Kd.R_far (p := ⟨gb266, 2, none⟩) (Kd.R_far (p := ⟨gb266, 1, none⟩) (Kd.R_far (p := ⟨gb266, 0, none⟩) (Kd.R_mono HO_5.out (fun k_ hk => (⟨hk, hk.2⟩ : _ ∧ k_ ≠ gb266))) (fun _ hk => hk.2) (.int .i64 t263)) (fun _ hk => hk.2) (.int .i64 t264)) (fun _ hk => hk.2) (.string t265)) (fun _ h_ => h_.1))) hb); have n1_ := Aside0.mk (Kd.R_below (by (with_reducible repeat (first | apply Kd.R_alloc | apply Kd.R_drewN | apply Kd.R_drew)); exact (Kd.R_mono (Kd.R_far (p := ⟨gb266, 2, none⟩) (Kd.R_far (p := ⟨gb266, 1, none⟩) (Kd.R_far (p := ⟨gb266, 0, none⟩) (Kd.R_mono HO_6.out (fun k_ hk => (⟨hk, hk.2⟩ : _ ∧ k_ ≠ gb266))) (fun _ hk => hk.2) (.int .i64 t263)) (fun _ hk => hk.2) (.int .i64 t264)) (fun _ hk => hk.2) (.string t265)) (fun _ h_ => h_.1))) hb); have n2_ := Aside0.mk (blk_below (g := gb266) (o := .cells #[.int .i64 t263, .int .i64 t264, .string t265] 25 (0, 0)) (by (with_reducible repeat (first | refine zN ?_ _ | refine zD ?_ | refine zA ?_ _)); refine blk_put (cs := #[.int .i64 t263, .int .i64 t264, .string (⟨#[]⟩ : ByteArray)]) ?_ 2 _ rfl; (with_reducible repeat (first | refine zN ?_ _ | refine zD ?_ | refine zA ?_ _)); refine blk_put (cs := #[.int .i64 t263, .int .i64 0, .string (⟨#[]⟩ : ByteArray)]) ?_ 1 _ rfl; (with_reducible repeat (first | refine zN ?_ _ | refine zD ?_ | refine zA ?_ _)); refine blk_put (cs := #[.int .i64 0, .int .i64 0, .string (⟨#[]⟩ : ByteArray)]) ?_ 0 _ rfl; (with_reducible repeat (first | refine zN ?_ _ | refine zD ?_ | refine zA ?_ _)); exact BK266.out) hb); have n3_ := Aside0.mk (below_step (by repeat (first | (with_reducible first | exact HB.out | apply yA | apply yN | apply yD | refine below_set ?_ GE266.out) | exact HB.out)) hb); clear HO_5; clear HO_6; clear BK266; clear HB; have HO_5 := n0_; have HO_6 := n1_; have BK266 := n2_; have HB := n3_; clear n0_ n1_ n2_ n3_; (try clear hb); (try clear hb2); (try clear hk); (try clear hi)) | ((with_reducible refine gate_dst (N := 9) rfl ?_); refine box_event ?hg (N := 9) ?hd (cs := #[.int .i64 0, .int .i64 0, .string (⟨#[]⟩ : ByteArray)]) (t := 25) ?hr ?_; (case hd => rfl); (case hg => rfl); (case hr => first | (go_simp; done) | (go_simp; rfl)); intro gb272 hg w18 hbox hb; have n0_ := Aside0.mk (Kd.R_below (Kd.R_elderB (by (with_reducible repeat (first | apply Kd.R_alloc | apply Kd.R_drewN | apply Kd.R_drew)); exact HO_5.out) gb272 (Nat.le_of_eq hg.symm)) hb); have n1_ := Aside0.mk (Kd.R_below (Kd.R_elderB (by (with_reducible repeat (first | apply Kd.R_alloc | apply Kd.R_drewN | apply Kd.R_drew)); exact HO_6.out) gb272 (Nat.le_of_eq hg.symm)) hb); have n2_ := Aside0.mk (blk_below (g := gb266) (o := .cells #[.int .i64 t263, .int .i64 t264, .string t265] 25 (0, 0)) (by (with_reducible repeat (first | refine zN ?_ _ | refine zD ?_ | refine zA ?_ _)); exact BK266.out) hb); have n3_ := Aside0.mk (below_step (by repeat (first | (with_reducible first | exact HB.out | apply yA | apply yN | apply yD | refine below_set ?_ GE266.out) | exact HB.out)) hb); have n4_ := Aside0.mk (hbox); have n5_ := Aside0.mk ((by rw [hg]; exact (below_size (by repeat (first | (with_reducible first | exact HB.out | apply yA | apply yN | apply yD | refine below_set ?_ GE266.out) | exact HB.out))) : w.heap.size ≤ gb272)); have n6_ := Aside0.mk ((by rw [hg]; exact (below_size (by repeat (first | (with_reducible first | exact HB.out | apply yA | apply yN | apply yD | refine below_set ?_ GE266.out) | exact HB.out))) : w.heap.size ≤ gb272)); have n7_ := Aside0.mk ((by rw [hg]; exact Nat.ne_of_lt (blk_lt (g := gb266) (o := .cells #[.int .i64 t263, .int .i64 t264, .string t265] 25 (0, 0)) (by (with_reducible repeat (first | refine zN ?_ _ | refine zD ?_ | refine zA ?_ _)); exact BK266.out)) : gb266 ≠ gb272)); have n8_ := Aside0.mk ((by rw [hg]; exact Nat.ne_of_gt (blk_lt (g := gb266) (o := .cells #[.int .i64 t263, .int .i64 t264, .string t265] 25 (0, 0)) (by (with_reducible repeat (first | refine zN ?_ _ | refine zD ?_ | refine zA ?_ _)); exact BK266.out)) : gb272 ≠ gb266)); clear HO_5; clear HO_6; clear BK266; clear HB; have HO_5 := n0_; have HO_6 := n1_; have BK266 := n2_; have HB := n3_; have BK272 := n4_; have GW272 := n5_; have GE272 := n6_; have NB266_272 := n7_; have NB272_266 := n8_; clear n0_ n1_ n2_ n3_ n4_ n5_ n6_ n7_ n8_; clear hb hbox hg; have hnb19 := NB272_266.out; have hnc19 := NB266_272.out; have hcz20_0 : w18.cell? ⟨gb272, 0, none⟩ = some (.int .i64 0) := (blk_cell BK272.out 0).trans rfl; have hcz20_1 : w18.cell? ⟨gb272, 1, none⟩ = some (.int .i64 0) := (blk_cell BK272.out 1).trans rfl; have hcz20_2 : w18.cell? ⟨gb272, 2, none⟩ = some (.string (⟨#[]⟩ : ByteArray)) := (blk_cell BK272.out 2).trans rfl; have hfz20_0 := blk_frozen BK272.out 0; have hfz20_1 := blk_frozen BK272.out 1; have hfz20_2 := blk_frozen BK272.out 2; have hcz21_0 : w18.cell? ⟨gb266, 0, none⟩ = some (.int .i64 t263) := (blk_cell BK266.out 0).trans rfl; have hcz21_1 : w18.cell? ⟨gb266, 1, none⟩ = some (.int .i64 t264) := (blk_cell BK266.out 1).trans rfl; have hcz21_2 : w18.cell? ⟨gb266, 2, none⟩ = some (.string t265) := (blk_cell BK266.out 2).trans rfl; have hfz21_0 := blk_frozen BK266.out 0; have hfz21_1 := blk_frozen BK266.out 1; have hfz21_2 := blk_frozen BK266.out 2) | ((with_reducible refine gate_builtin (b := .append) (xs := #[.tmp 57, .tmp 59]) rfl ?_); at_builtin; refine Kd.R_append k25 (w0 := w) w.heap.size rfl (.tmp 57) (.tmp 59) 33 25 (.agg #[(.int .i64 0), (.int .i64 0), (.string ⟨#[]⟩)]) 32 rfl Tryd.underlying33 info25 rfl (by decide) (by omega) u5 x5_1 (⟨t263, t264, t265⟩ : S25) [.int .i64 t263, .int .i64 t264, .string t265] (fun k_ => some k_ ≠ (u6 : Value).ownBlock ∧ k_ ≠ gb266 ∧ k_ ≠ gb272) (fun _ => False) rfl (by first | (go_simp; done) | (go_simp; rfl)) ?aP (fun _ hk => hk.elim) ?aF ?aO ?aB ?aS ?aL ?_; (case aP => exact k25_mkM _ _ _ (⟨t263, t264, t265⟩ : S25)); (case aB => exact (by repeat (first | (with_reducible first | exact HB.out | apply yA | apply yN | apply yD | refine below_set ?_ GE266.out | refine below_set ?_ GE272.out) | exact HB.out))); (case aF => exact (fun k_ hk => ⟨Kd.fresh' (Kd.R_lt (by (with_reducible repeat (first | apply Kd.R_alloc | apply Kd.R_drewN | apply Kd.R_drew)); exact (Kd.R_mono (Kd.R_far (p := ⟨gb272, 2, none⟩) (Kd.R_far (p := ⟨gb272, 1, none⟩) (Kd.R_far (p := ⟨gb272, 0, none⟩) (Kd.R_mono HO_6.out (fun k_ hk => (⟨hk, hk.2⟩ : _ ∧ k_ ≠ gb272))) (fun _ hk => hk.2) (.int .i64 t268)) (fun _ hk => hk.2) (.int .i64 t269)) (fun _ hk => hk.2) (.string t270)) (fun _ h_ => h_.1)))) k_ hk, Kd.freshB (g := gb266) (o := .cells #[.int .i64 t263, .int .i64 t264, .string t265] 25 (0, 0)) (by (with_reducible repeat (first | refine zN ?_ _ | refine zD ?_ | refine zA ?_ _)); refine blk_far ?_ NB266_272.out _; (with_reducible repeat (first | refine zN ?_ _ | refine zD ?_ | refine zA ?_ _)); refine blk_far ?_ NB266_272.out _; (with_reducible repeat (first | refine zN ?_ _ | refine zD ?_ | refine zA ?_ _)); refine blk_far ?_ NB266_272.out _; (with_reducible repeat (first | refine zN ?_ _ | refine zD ?_ | refine zA ?_ _)); exact BK266.out) k_ hk, Kd.freshB (g := gb272) (o := .cells #[.int .i64 t268, .int .i64 t269, .string t270] 25 (0, 0)) (by (with_reducible repeat (first | refine zN ?_ _ | refine zD ?_ | refine zA ?_ _)); refine blk_put (cs := #[.int .i64 t268, .int .i64 t269, .string (⟨#[]⟩ : ByteArray)]) ?_ 2 _ rfl; (with_reducible repeat (first | refine zN ?_ _ | refine zD ?_ | refine zA ?_ _)); refine blk_put (cs := #[.int .i64 t268, .int .i64 0, .string (⟨#[]⟩ : ByteArray)]) ?_ 1 _ rfl; (with_reducible repeat (first | refine zN ?_ _ | refine zD ?_ | refine zA ?_ _)); refine blk_put (cs := #[.int .i64 0, .int .i64 0, .string (⟨#[]⟩ : ByteArray)]) ?_ 0 _ rfl; (with_reducible repeat (first | refine zN ?_ _ | refine zD ?_ | refine zA ?_ _)); exact BK272.out) k_ hk⟩)); (case aO => exact (by (with_reducible repeat (first | apply Kd.R_alloc | apply Kd.R_drewN | apply Kd.R_drew)); exact Kd.R_mono (Kd.R_far (p := ⟨gb272, 2, none⟩) (Kd.R_far (p := ⟨gb272, 1, none⟩) (Kd.R_far (p := ⟨gb272, 0, none⟩) (Kd.R_mono HO_5.out (fun k_ hk => (⟨hk, hk.2⟩ : _ ∧ k_ ≠ gb272))) (fun _ hk => hk.2) (.int .i64 t268)) (fun _ hk => hk.2) (.int .i64 t269)) (fun _ hk => hk.2) (.string t270)) (fun _ hk => ⟨hk.1.1.1, ⟨hk.1.1.2, hk.1.2⟩⟩))); (case aS => exact (below_size (by repeat (first | (with_reducible first | exact HB.out | apply yA | apply yN | apply yD | refine below_set ?_ GE266.out | refine below_set ?_ GE272.out) | exact HB.out)))); (case aL => have := LMc12.out; omega); intro v274 w22 ho hb hg hat; rw [← Ny273.out] at ho; have n0_ := Aside0.mk (Kd.R_after (ok := (fun k_ => k_ ≠ gb266 ∧ k_ ≠ gb272)) (by (with_reducible repeat (first | apply Kd.R_alloc | apply Kd.R_drewN | apply Kd.R_drew)); exact Kd.R_mono (Kd.R_far (p := ⟨gb272, 2, none⟩) (Kd.R_far (p := ⟨gb272, 1, none⟩) (Kd.R_far (p := ⟨gb272, 0, none⟩) (Kd.R_mono HO_6.out (fun k_ hk => (⟨hk, hk.2⟩ : _ ∧ k_ ≠ gb272))) (fun _ hk => hk.2) (.int .i64 t268)) (fun _ hk => hk.2) (.int .i64 t269)) (fun _ hk => hk.2) (.string t270)) (fun _ hk => ⟨⟨hk.1.1.2, hk.1.2⟩, hk.1.1.1⟩)) hg hat); have n1_ := Aside0.mk (blk_grown (g := gb266) (o := .cells #[.int .i64 t263, .int .i64 t264, .string t265] 25 (0, 0)) (by (with_reducible repeat (first | refine zN ?_ _ | refine zD ?_ | refine zA ?_ _)); refine blk_far ?_ NB266_272.out _; (with_reducible repeat (first | refine zN ?_ _ | refine zD ?_ | refine zA ?_ _)); refine blk_far ?_ NB266_272.out _; (with_reducible repeat (first | refine zN ?_ _ | refine zD ?_ | refine zA ?_ _)); refine blk_far ?_ NB266_272.out _; (with_reducible repeat (first | refine zN ?_ _ | refine zD ?_ | refine zA ?_ _)); exact BK266.out) hg (Kd.R_away HO_5.out (fun _ hk => hk.1.2))); have n2_ := Aside0.mk (blk_grown (g := gb272) (o := .cells #[.int .i64 t268, .int .i64 t269, .string t270] 25 (0, 0)) (by (with_reducible repeat (first | refine zN ?_ _ | refine zD ?_ | refine zA ?_ _)); refine blk_put (cs := #[.int .i64 t268, .int .i64 t269, .string (⟨#[]⟩ : ByteArray)]) ?_ 2 _ rfl; (with_reducible repeat (first | refine zN ?_ _ | refine zD ?_ | refine zA ?_ _)); refine blk_put (cs := #[.int .i64 t268, .int .i64 0, .string (⟨#[]⟩ : ByteArray)]) ?_ 1 _ rfl; (with_reducible repeat (first | refine zN ?_ _ | refine zD ?_ | refine zA ?_ _)); refine blk_put (cs := #[.int .i64 0, .int .i64 0, .string (⟨#[]⟩ : ByteArray)]) ?_ 0 _ rfl; (with_reducible repeat (first | refine zN ?_ _ | refine zD ?_ | refine zA ?_ _)); exact BK272.out) hg (Kd.R_away HO_5.out (fun _ hk => hk.2))); have n3_ := Aside0.mk (hb); have n4_ := Aside0.mk (ho); clear HO_6; clear BK266; clear BK272; clear HB; clear HO_5; have HO_6 := n0_; have BK266 := n1_; have BK272 := n2_; have HB := n3_; have HO275 := n4_; clear n0_ n1_ n2_ n3_ n4_; clear ho hb hg hat; have hcz23_0 : w22.cell? ⟨gb272, 0, none⟩ = some (.int .i64 t268) := (blk_cell BK272.out 0).trans rfl; have hcz23_1 : w22.cell? ⟨gb272, 1, none⟩ = some (.int .i64 t269) := (blk_cell BK272.out 1).trans rfl; have hcz23_2 : w22.cell? ⟨gb272, 2, none⟩ = some (.string t270) := (blk_cell BK272.out 2).trans rfl; have hfz23_0 := blk_frozen BK272.out 0; have hfz23_1 := blk_frozen BK272.out 1; have hfz23_2 := blk_frozen BK272.out 2) | ((with_reducible refine gate_builtin (b := .append) (xs := #[.tmp 61, .tmp 63]) rfl ?_); at_builtin; refine Kd.R_append k25 (w0 := w) w.heap.size rfl (.tmp 61) (.tmp 63) 33 25 (.agg #[(.int .i64 0), (.int .i64 0), (.string ⟨#[]⟩)]) 32 rfl Tryd.underlying33 info25 rfl (by decide) (by omega) u6 x6_1 (⟨t268, t269, t270⟩ : S25) [.int .i64 t268, .int .i64 t269, .string t270] (fun k_ => some k_ ≠ (v274 : Value).ownBlock ∧ k_ ≠ gb266 ∧ k_ ≠ gb272) (fun _ => False) rfl rfl ?aP (fun _ hk => hk.elim) ?aF ?aO ?aB ?aS ?aL ?_; (case aP => exact k25_mkM _ _ _ (⟨t268, t269, t270⟩ : S25)); (case aB => exact (by repeat (first | (with_reducible first | exact HB.out | apply yA | apply yN | apply yD | refine below_set ?_ GE266.out | refine below_set ?_ GE272.out) | exact HB.out))); (case aF => exact (fun k_ hk => ⟨Kd.fresh' (Kd.R_lt (by (with_reducible repeat (first | apply Kd.R_alloc | apply Kd.R_drewN | apply Kd.R_drew)); exact HO275.out)) k_ hk, Kd.freshB (g := gb266) (o := .cells #[.int .i64 t263, .int .i64 t264, .string t265] 25 (0, 0)) (by (with_reducible repeat (first | refine zN ?_ _ | refine zD ?_ | refine zA ?_ _)); exact BK266.out) k_ hk, Kd.freshB (g := gb272) (o := .cells #[.int .i64 t268, .int .i64 t269, .string t270] 25 (0, 0)) (by (with_reducible repeat (first | refine zN ?_ _ | refine zD ?_ | refine zA ?_ _)); exact BK272.out) k_ hk⟩)); (case aO => exact (by (with_reducible repeat (first | apply Kd.R_alloc | apply Kd.R_drewN | apply Kd.R_drew)); exact Kd.R_mono HO_6.out (fun _ hk => ⟨hk.2, ⟨hk.1.1, hk.1.2⟩⟩))); (case aS => exact (below_size (by repeat (first | (with_reducible first | exact HB.out | apply yA | apply yN | apply yD | refine below_set ?_ GE266.out | refine below_set ?_ GE272.out) | exact HB.out)))); (case aL => have := LMc13.out; omega); intro v277 w24 ho hb hg hat; rw [← Ny276.out] at ho; have n0_ := Aside0.mk (blk_grown (g := gb266) (o := .cells #[.int .i64 t263, .int .i64 t264, .string t265] 25 (0, 0)) (by (with_reducible repeat (first | refine zN ?_ _ | refine zD ?_ | refine zA ?_ _)); exact BK266.out) hg (Kd.R_away HO_6.out (fun _ hk => hk.1.1))); have n1_ := Aside0.mk (blk_grown (g := gb272) (o := .cells #[.int .i64 t268, .int .i64 t269, .string t270] 25 (0, 0)) (by (with_reducible repeat (first | refine zN ?_ _ | refine zD ?_ | refine zA ?_ _)); exact BK272.out) hg (Kd.R_away HO_6.out (fun _ hk => hk.1.2))); have n2_ := Aside0.mk (Kd.R_after (ok := (fun k_ => k_ ≠ gb266 ∧ k_ ≠ gb272)) (by (with_reducible repeat (first | apply Kd.R_alloc | apply Kd.R_drewN | apply Kd.R_drew)); exact Kd.R_mono HO275.out (fun _ hk => ⟨⟨hk.2.1, hk.2.2⟩, hk.1⟩)) hg hat); have n3_ := Aside0.mk (hb); have n4_ := Aside0.mk (ho); clear BK266; clear BK272; clear HO275; clear HB; clear HO_6; have BK266 := n0_; have BK272 := n1_; have HO275 := n2_; have HB := n3_; have HO278 := n4_; clear n0_ n1_ n2_ n3_ n4_; clear ho hb hg hat))
                        go_roundg kj2
                        case measure => have := HK1.out; have := HJ2.out; omega
                        case rel => exact ⟨(y273), (y276), (wrap64 (x7_1 + 1)), (by first | rfl | (simp; done) | (simp [*]; done)), H', ⟨by have := HK1.out; have := HJ2.out; omega⟩, ⟨by (with_reducible repeat (first | apply Kd.R_alloc | apply Kd.R_drewN | apply Kd.R_drew)); exact Kd.R_mono HO275.out (fun _ hk => hk.2)⟩, ⟨by (with_reducible repeat (first | apply Kd.R_alloc | apply Kd.R_drewN | apply Kd.R_drew)); exact Kd.R_mono HO278.out (fun _ hk => hk.1)⟩, ⟨by repeat (first | (with_reducible first | exact HB.out | apply yA | apply yN | apply yD | refine below_set ?_ GE266.out | refine below_set ?_ GE272.out) | exact HB.out)⟩⟩
                      · rw [if_neg c13] at H
                        exact absurd H (by simp)
                    · rw [if_neg c12] at H
                      exact absurd H (by simp)
                  · rw [if_neg c11] at H
                    have c11b0 : (t271 == 0) = false := beq_eq_false_iff_ne.mpr c11
                    have c11b1 : (t271 != 0) = true := bne_iff_ne.mpr c11
                    exact absurd ((Option.some.inj H).trans hr_.out) (by decide)
                · rw [if_neg c9] at H
                  have c9b0 : (((rd_T25 l0 x7_1).f0) == 0) = false := beq_eq_false_iff_ne.mpr c9
                  have c9b1 : (((rd_T25 l0 x7_1).f0) != 0) = true := bne_iff_ne.mpr c9
                  replace H := Option.bind_eq_some_iff.mp H
                  obtain ⟨⟨t280, t281, t282⟩, A250, H⟩ := H
                  replace H : ((value_Not.f t280 t281 t282).bind fun bt283 => (if bt283.2.2.2 = 0 then (if x5_1.length < 4398046511104 then (if x6_1.length < 4398046511104 then (tacticianlaw01_ValueMorgan.l0 kj2 l0 a1 (x5_1 ++ [(⟨t280, t281, t282⟩ : S25)]) (x6_1 ++ [(⟨bt283.1, bt283.2.1, bt283.2.2.1⟩ : S25)]) (wrap64 (x7_1 + 1))) else (none)) else (none)) else (some false))) = some r := H
                  have A25 := Aside0.mk A250
                  clear A250
                  replace H := Option.bind_eq_some_iff.mp H
                  obtain ⟨⟨t283, t284, t285, t286⟩, A260, H⟩ := H
                  replace H : (if t286 = 0 then (if x5_1.length < 4398046511104 then (if x6_1.length < 4398046511104 then (tacticianlaw01_ValueMorgan.l0 kj2 l0 a1 (x5_1 ++ [(⟨t280, t281, t282⟩ : S25)]) (x6_1 ++ [(⟨t283, t284, t285⟩ : S25)]) (wrap64 (x7_1 + 1))) else (none)) else (none)) else (some false)) = some r := H
                  have A26 := Aside0.mk A260
                  clear A260
                  by_cases c27 : t286 = 0
                  · rw [if_pos c27] at H
                    have c27b0 : (t286 == 0) = true := beq_iff_eq.mpr c27
                    have c27b1 : (t286 != 0) = false := bne_eq_false_iff_eq.mpr c27
                    clear c27
                    by_cases c28 : x5_1.length < 4398046511104
                    · rw [if_pos c28] at H
                      have LMc28 := Aside0.mk c28
                      clear c28
                      obtain ⟨y288, hy288⟩ : ∃ y_ : List (S25), y_ = (x5_1 ++ [(⟨t280, t281, t282⟩ : S25)]) := ⟨_, rfl⟩
                      replace H : (if x6_1.length < 4398046511104 then (tacticianlaw01_ValueMorgan.l0 kj2 l0 a1 y288 (x6_1 ++ [(⟨t283, t284, t285⟩ : S25)]) (wrap64 (x7_1 + 1))) else (none)) = some r := by first | (rw [hy288]; with_reducible exact H) | (have H2_ := (Option.bind_some _ _).symm.trans H; rw [hy288]; with_reducible exact H2_) | (have H2_ := (Option.bind_some _ _).symm.trans H; with_reducible exact H2_) | with_reducible exact H | (rw [hy288]; exact H) | exact H
                      have Ny288 := Aside0.mk hy288
                      clear hy288
                      by_cases c29 : x6_1.length < 4398046511104
                      · rw [if_pos c29] at H
                        have LMc29 := Aside0.mk c29
                        clear c29
                        obtain ⟨y291, hy291⟩ : ∃ y_ : List (S25), y_ = (x6_1 ++ [(⟨t283, t284, t285⟩ : S25)]) := ⟨_, rfl⟩
                        replace H : (tacticianlaw01_ValueMorgan.l0 kj2 l0 a1 y288 y291 (wrap64 (x7_1 + 1))) = some r := by first | (rw [hy291]; with_reducible exact H) | (have H2_ := (Option.bind_some _ _).symm.trans H; rw [hy291]; with_reducible exact H2_) | (have H2_ := (Option.bind_some _ _).symm.trans H; with_reducible exact H2_) | with_reducible exact H | (rw [hy291]; exact H) | exact H
                        have Ny291 := Aside0.mk hy291
                        clear hy291
                        have H' := Aside0.mk H
                        clear H
                        go_wp2_with (first | ((with_reducible refine gate_callee (f := 19) rfl ?_); refine goesL_ (some 35) rfl rfl Tryd.func19 (by kernel_rfl) rfl #[] rfl (by (try simp only [List.map_toArray, List.map_cons, List.map_nil]); first | done | rfl | (simp only [List.length_drop, List.length_take]; rfl)) ?_; (with_reducible refine (tacticianref01_Null.calls  t263 t264 t265 _ A6.out).mono ?_); rintro e w30 ⟨rfl, hb⟩; refine ⟨_, rfl, ?_⟩; have n0_ := Aside0.mk (Kd.R_below (by (with_reducible repeat (first | apply Kd.R_alloc | apply Kd.R_drewN | apply Kd.R_drew)); exact HO_5.out) hb); have n1_ := Aside0.mk (Kd.R_below (by (with_reducible repeat (first | apply Kd.R_alloc | apply Kd.R_drewN | apply Kd.R_drew)); exact HO_6.out) hb); have n2_ := Aside0.mk (below_step (by repeat (first | (with_reducible first | exact HB.out | apply yA | apply yN | apply yD) | exact HB.out)) hb); clear HO_5; clear HO_6; clear HB; have HO_5 := n0_; have HO_6 := n1_; have HB := n2_; clear n0_ n1_ n2_; (try clear hb); (try clear hb2); (try clear hk); (try clear hi)) | ((with_reducible refine gate_dst (N := 8) rfl ?_); refine box_event ?hg (N := 8) ?hd (cs := #[.int .i64 0, .int .i64 0, .string (⟨#[]⟩ : ByteArray)]) (t := 25) ?hr ?_; (case hd => rfl); (case hg => rfl); (case hr => first | (go_simp; done) | (go_simp; rfl)); intro gb266 hg w31 hbox hb; have n0_ := Aside0.mk (Kd.R_below (Kd.R_elderB (by (with_reducible repeat (first | apply Kd.R_alloc | apply Kd.R_drewN | apply Kd.R_drew)); exact HO_5.out) gb266 (Nat.le_of_eq hg.symm)) hb); have n1_ := Aside0.mk (Kd.R_below (Kd.R_elderB (by (with_reducible repeat (first | apply Kd.R_alloc | apply Kd.R_drewN | apply Kd.R_drew)); exact HO_6.out) gb266 (Nat.le_of_eq hg.symm)) hb); have n2_ := Aside0.mk (below_step (by repeat (first | (with_reducible first | exact HB.out | apply yA | apply yN | apply yD) | exact HB.out)) hb); have n3_ := Aside0.mk (hbox); have n4_ := Aside0.mk ((by rw [hg]; exact (below_size (by repeat (first | (with_reducible first | exact HB.out | apply yA | apply yN | apply yD) | exact HB.out))) : w.heap.size ≤ gb266)); have n5_ := Aside0.mk ((by rw [hg]; exact (below_size (by repeat (first | (with_reducible first | exact HB.out | apply yA | apply yN | apply yD) | exact HB.out))) : w.heap.size ≤ gb266)); clear HO_5; clear HO_6; clear HB; have HO_5 := n0_; have HO_6 := n1_; have HB := n2_; have BK266 := n3_; have GW266 := n4_; have GE266 := n5_; clear n0_ n1_ n2_ n3_ n4_ n5_; clear hb hbox hg; have hcz32_0 : w31.cell? ⟨gb266, 0, none⟩ = some (.int .i64 0) := (blk_cell BK266.out 0).trans rfl; have hcz32_1 : w31.cell? ⟨gb266, 1, none⟩ = some (.int .i64 0) := (blk_cell BK266.out 1).trans rfl; have hcz32_2 : w31.cell? ⟨gb266, 2, none⟩ = some (.string (⟨#[]⟩ : ByteArray)) := (blk_cell BK266.out 2).trans rfl; have hfz32_0 := blk_frozen BK266.out 0; have hfz32_1 := blk_frozen BK266.out 1; have hfz32_2 := blk_frozen BK266.out 2; have p267 : 0 ≤ (x7_1 : Int) := of_decide_eq_true (by first | (with_reducible assumption) | assumption); have q267 : x7_1 < (l0.length : Int) := of_decide_eq_true (by first | (with_reducible assumption) | assumption); obtain ⟨ad267, e267, hx267_0, hx267_1, hx267_2⟩ := at_T25 HR0.out x7_1 p267 q267; cases e267; have hn267_0 : ad267.block ≠ gb266 := Nat.ne_of_lt (Nat.lt_of_lt_of_le (by have := World.block_lt_of_cell? _ _ hx267_0; first | rwa [add_block] at this | exact this) GW266.out); have hn267_1 : ad267.block ≠ gb266 := Nat.ne_of_lt (Nat.lt_of_lt_of_le (by have := World.block_lt_of_cell? _ _ hx267_0; first | rwa [add_block] at this | exact this) GW266.out); have hn267_2 : ad267.block ≠ gb266 := Nat.ne_of_lt (Nat.lt_of_lt_of_le (by have := World.block_lt_of_cell? _ _ hx267_0; first | rwa [add_block] at this | exact this) GW266.out); replace hx267_0 := (HB.out.cell (World.block_lt_of_cell? w _ hx267_0)).trans hx267_0; replace hx267_1 := (HB.out.cell (World.block_lt_of_cell? w _ hx267_1)).trans hx267_1; replace hx267_2 := (HB.out.cell (World.block_lt_of_cell? w _ hx267_2)).trans hx267_2; replace hx267_0 := (cell_far (p := ⟨gb266, 0, none⟩) (by first | (rw [add_block]; exact hn267_0) | (show (Addr.add _ _).block ≠ _; rw [add_block]; exact hn267_0) | exact hn267_0) (.int .i64 t263)).trans hx267_0; replace hx267_1 := (cell_far (p := ⟨gb266, 0, none⟩) (by first | (rw [add_block]; exact hn267_0) | (show (Addr.add _ _).block ≠ _; rw [add_block]; exact hn267_0) | exact hn267_0) (.int .i64 t263)).trans hx267_1; replace hx267_2 := (cell_far (p := ⟨gb266, 0, none⟩) (by first | (rw [add_block]; exact hn267_0) | (show (Addr.add _ _).block ≠ _; rw [add_block]; exact hn267_0) | exact hn267_0) (.int .i64 t263)).trans hx267_2; replace hx267_0 := (cell_far (p := ⟨gb266, 1, none⟩) (by first | (rw [add_block]; exact hn267_1) | (show (Addr.add _ _).block ≠ _; rw [add_block]; exact hn267_1) | exact hn267_1) (.int .i64 t264)).trans hx267_0; replace hx267_1 := (cell_far (p := ⟨gb266, 1, none⟩) (by first | (rw [add_block]; exact hn267_1) | (show (Addr.add _ _).block ≠ _; rw [add_block]; exact hn267_1) | exact hn267_1) (.int .i64 t264)).trans hx267_1; replace hx267_2 := (cell_far (p := ⟨gb266, 1, none⟩) (by first | (rw [add_block]; exact hn267_1) | (show (Addr.add _ _).block ≠ _; rw [add_block]; exact hn267_1) | exact hn267_1) (.int .i64 t264)).trans hx267_2; replace hx267_0 := (cell_far (p := ⟨gb266, 2, none⟩) (by first | (rw [add_block]; exact hn267_2) | (show (Addr.add _ _).block ≠ _; rw [add_block]; exact hn267_2) | exact hn267_2) (.string t265)).trans hx267_0; replace hx267_1 := (cell_far (p := ⟨gb266, 2, none⟩) (by first | (rw [add_block]; exact hn267_2) | (show (Addr.add _ _).block ≠ _; rw [add_block]; exact hn267_2) | exact hn267_2) (.string t265)).trans hx267_1; replace hx267_2 := (cell_far (p := ⟨gb266, 2, none⟩) (by first | (rw [add_block]; exact hn267_2) | (show (Addr.add _ _).block ≠ _; rw [add_block]; exact hn267_2) | exact hn267_2) (.string t265)).trans hx267_2; clear hn267_0; clear hn267_1; clear hn267_2; replace p267 := eq_true p267; replace q267 := eq_true q267; have p279 : 0 ≤ (x7_1 : Int) := of_decide_eq_true (by first | (with_reducible assumption) | assumption); have q279 : x7_1 < (l0.length : Int) := of_decide_eq_true (by first | (with_reducible assumption) | assumption); obtain ⟨ad279, e279, hx279_0, hx279_1, hx279_2⟩ := at_T25 HR0.out x7_1 p279 q279; obtain rfl : ad267 = ad279 := (by injection e279); have hn279_0 : ad267.block ≠ gb266 := Nat.ne_of_lt (Nat.lt_of_lt_of_le (by have := World.block_lt_of_cell? _ _ hx279_0; first | rwa [add_block] at this | exact this) GW266.out); have hn279_1 : ad267.block ≠ gb266 := Nat.ne_of_lt (Nat.lt_of_lt_of_le (by have := World.block_lt_of_cell? _ _ hx279_0; first | rwa [add_block] at this | exact this) GW266.out); have hn279_2 : ad267.block ≠ gb266 := Nat.ne_of_lt (Nat.lt_of_lt_of_le (by have := World.block_lt_of_cell? _ _ hx279_0; first | rwa [add_block] at this | exact this) GW266.out); replace hx279_0 := (HB.out.cell (World.block_lt_of_cell? w _ hx279_0)).trans hx279_0; replace hx279_1 := (HB.out.cell (World.block_lt_of_cell? w _ hx279_1)).trans hx279_1; replace hx279_2 := (HB.out.cell (World.block_lt_of_cell? w _ hx279_2)).trans hx279_2; replace hx279_0 := (cell_far (p := ⟨gb266, 0, none⟩) (by first | (rw [add_block]; exact hn279_0) | (show (Addr.add _ _).block ≠ _; rw [add_block]; exact hn279_0) | exact hn279_0) (.int .i64 t263)).trans hx279_0; replace hx279_1 := (cell_far (p := ⟨gb266, 0, none⟩) (by first | (rw [add_block]; exact hn279_0) | (show (Addr.add _ _).block ≠ _; rw [add_block]; exact hn279_0) | exact hn279_0) (.int .i64 t263)).trans hx279_1; replace hx279_2 := (cell_far (p := ⟨gb266, 0, none⟩) (by first | (rw [add_block]; exact hn279_0) | (show (Addr.add _ _).block ≠ _; rw [add_block]; exact hn279_0) | exact hn279_0) (.int .i64 t263)).trans hx279_2; replace hx279_0 := (cell_far (p := ⟨gb266, 1, none⟩) (by first | (rw [add_block]; exact hn279_1) | (show (Addr.add _ _).block ≠ _; rw [add_block]; exact hn279_1) | exact hn279_1) (.int .i64 t264)).trans hx279_0; replace hx279_1 := (cell_far (p := ⟨gb266, 1, none⟩) (by first | (rw [add_block]; exact hn279_1) | (show (Addr.add _ _).block ≠ _; rw [add_block]; exact hn279_1) | exact hn279_1) (.int .i64 t264)).trans hx279_1; replace hx279_2 := (cell_far (p := ⟨gb266, 1, none⟩) (by first | (rw [add_block]; exact hn279_1) | (show (Addr.add _ _).block ≠ _; rw [add_block]; exact hn279_1) | exact hn279_1) (.int .i64 t264)).trans hx279_2; replace hx279_0 := (cell_far (p := ⟨gb266, 2, none⟩) (by first | (rw [add_block]; exact hn279_2) | (show (Addr.add _ _).block ≠ _; rw [add_block]; exact hn279_2) | exact hn279_2) (.string t265)).trans hx279_0; replace hx279_1 := (cell_far (p := ⟨gb266, 2, none⟩) (by first | (rw [add_block]; exact hn279_2) | (show (Addr.add _ _).block ≠ _; rw [add_block]; exact hn279_2) | exact hn279_2) (.string t265)).trans hx279_1; replace hx279_2 := (cell_far (p := ⟨gb266, 2, none⟩) (by first | (rw [add_block]; exact hn279_2) | (show (Addr.add _ _).block ≠ _; rw [add_block]; exact hn279_2) | exact hn279_2) (.string t265)).trans hx279_2; clear hn279_0; clear hn279_1; clear hn279_2; replace p279 := eq_true p279; replace q279 := eq_true q279) | ((with_reducible refine gate_callee (f := 20) rfl ?_); refine goesL_ (some 49) rfl rfl Tryd.func20 (by kernel_rfl) rfl #[.bool ((Int.tmod ((rd_T25 l0 x7_1).f1) 2) != 0)] rfl (by (try simp only [List.map_toArray, List.map_cons, List.map_nil]); first | done | rfl | (simp only [List.length_drop, List.length_take]; rfl)) ?_; (with_reducible refine (tacticianref01_Bool.calls ((Int.tmod ((rd_T25 l0 x7_1).f1) 2) != 0) t280 t281 t282 _ A25.out).mono ?_); rintro e w33 ⟨rfl, hb⟩; refine ⟨_, rfl, ?_⟩; have n0_ := Aside0.mk (Kd.R_below (by (with_reducible repeat (first | apply Kd.R_alloc | apply Kd.R_drewN | apply Kd.R_drew)); exact (Kd.R_mono (Kd.R_far (p := ⟨gb266, 2, none⟩) (Kd.R_far (p := ⟨gb266, 1, none⟩) (Kd.R_far (p := ⟨gb266, 0, none⟩) (Kd.R_mono HO_5.out (fun k_ hk => (⟨hk, hk.2⟩ : _ ∧ k_ ≠ gb266))) (fun _ hk => hk.2) (.int .i64 t263)) (fun _ hk => hk.2) (.int .i64 t264)) (fun _ hk => hk.2) (.string t265)) (fun _ h_ => h_.1))) hb); have n1_ := Aside0.mk (Kd.R_below (by (with_reducible repeat (first | apply Kd.R_alloc | apply Kd.R_drewN | apply Kd.R_drew)); exact (Kd.R_mono (Kd.R_far (p := ⟨gb266, 2, none⟩) (Kd.R_far (p := ⟨gb266, 1, none⟩) (Kd.R_far (p := ⟨gb266, 0, none⟩) (Kd.R_mono HO_6.out (fun k_ hk => (⟨hk, hk.2⟩ : _ ∧ k_ ≠ gb266))) (fun _ hk => hk.2) (.int .i64 t263)) (fun _ hk => hk.2) (.int .i64 t264)) (fun _ hk => hk.2) (.string t265)) (fun _ h_ => h_.1))) hb); have n2_ := Aside0.mk (blk_below (g := gb266) (o := .cells #[.int .i64 t263, .int .i64 t264, .string t265] 25 (0, 0)) (by (with_reducible repeat (first | refine zN ?_ _ | refine zD ?_ | refine zA ?_ _)); refine blk_put (cs := #[.int .i64 t263, .int .i64 t264, .string (⟨#[]⟩ : ByteArray)]) ?_ 2 _ rfl; (with_reducible repeat (first | refine zN ?_ _ | refine zD ?_ | refine zA ?_ _)); refine blk_put (cs := #[.int .i64 t263, .int .i64 0, .string (⟨#[]⟩ : ByteArray)]) ?_ 1 _ rfl; (with_reducible repeat (first | refine zN ?_ _ | refine zD ?_ | refine zA ?_ _)); refine blk_put (cs := #[.int .i64 0, .int .i64 0, .string (⟨#[]⟩ : ByteArray)]) ?_ 0 _ rfl; (with_reducible repeat (first | refine zN ?_ _ | refine zD ?_ | refine zA ?_ _)); exact BK266.out) hb); have n3_ := Aside0.mk (below_step (by repeat (first | (with_reducible first | exact HB.out | apply yA | apply yN | apply yD | refine below_set ?_ GE266.out) | exact HB.out)) hb); clear HO_5; clear HO_6; clear BK266; clear HB; have HO_5 := n0_; have HO_6 := n1_; have BK266 := n2_; have HB := n3_; clear n0_ n1_ n2_ n3_; (try clear hb); (try clear hb2); (try clear hk); (try clear hi); have hcz34_0 : w33.cell? ⟨gb266, 0, none⟩ = some (.int .i64 t263) := (blk_cell BK266.out 0).trans rfl; have hcz34_1 : w33.cell? ⟨gb266, 1, none⟩ = some (.int .i64 t264) := (blk_cell BK266.out 1).trans rfl; have hcz34_2 : w33.cell? ⟨gb266, 2, none⟩ = some (.string t265) := (blk_cell BK266.out 2).trans rfl; have hfz34_0 := blk_frozen BK266.out 0; have hfz34_1 := blk_frozen BK266.out 1; have hfz34_2 := blk_frozen BK266.out 2) | ((with_reducible refine gate_callee (f := 21) rfl ?_); refine goesL_ (some 52) rfl rfl Tryd.func21 (by kernel_rfl) rfl #[.agg #[.int .i64 t280, .int .i64 t281, .string t282]] rfl (by (try simp only [List.map_toArray, List.map_cons, List.map_nil]); first | done | rfl | (simp only [List.length_drop, List.length_take]; rfl)) ?_; (with_reducible refine (value_Not.calls t280 t281 t282 t283 t284 t285 t286 _ A26.out).mono ?_); rintro e w35 ⟨rfl, hb⟩; refine ⟨_, rfl, ?_⟩; have n0_ := Aside0.mk (Kd.R_below (by (with_reducible repeat (first | apply Kd.R_alloc | apply Kd.R_drewN | apply Kd.R_drew)); exact (Kd.R_mono (Kd.R_far (p := ⟨gb266, 2, none⟩) (Kd.R_far (p := ⟨gb266, 1, none⟩) (Kd.R_far (p := ⟨gb266, 0, none⟩) (Kd.R_mono HO_5.out (fun k_ hk => (⟨hk, hk.2⟩ : _ ∧ k_ ≠ gb266))) (fun _ hk => hk.2) (.int .i64 t280)) (fun _ hk => hk.2) (.int .i64 t281)) (fun _ hk => hk.2) (.string t282)) (fun _ h_ => h_.1))) hb); have n1_ := Aside0.mk (Kd.R_below (by (with_reducible repeat (first | apply Kd.R_alloc | apply Kd.R_drewN | apply Kd.R_drew)); exact (Kd.R_mono (Kd.R_far (p := ⟨gb266, 2, none⟩) (Kd.R_far (p := ⟨gb266, 1, none⟩) (Kd.R_far (p := ⟨gb266, 0, none⟩) (Kd.R_mono HO_6.out (fun k_ hk => (⟨hk, hk.2⟩ : _ ∧ k_ ≠ gb266))) (fun _ hk => hk.2) (.int .i64 t280)) (fun _ hk => hk.2) (.int .i64 t281)) (fun _ hk => hk.2) (.string t282)) (fun _ h_ => h_.1))) hb); have n2_ := Aside0.mk (blk_below (g := gb266) (o := .cells #[.int .i64 t280, .int .i64 t281, .string t282] 25 (0, 0)) (by (with_reducible repeat (first | refine zN ?_ _ | refine zD ?_ | refine zA ?_ _)); refine blk_put (cs := #[.int .i64 t280, .int .i64 t281, .string t265]) ?_ 2 _ rfl; (with_reducible repeat (first | refine zN ?_ _ | refine zD ?_ | refine zA ?_ _)); refine blk_put (cs := #[.int .i64 t280, .int .i64 t264, .string t265]) ?_ 1 _ rfl; (with_reducible repeat (first | refine zN ?_ _ | refine zD ?_ | refine zA ?_ _)); refine blk_put (cs := #[.int .i64 t263, .int .i64 t264, .string t265]) ?_ 0 _ rfl; (with_reducible repeat (first | refine zN ?_ _ | refine zD ?_ | refine zA ?_ _)); exact BK266.out) hb); have n3_ := Aside0.mk (below_step (by repeat (first | (with_reducible first | exact HB.out | apply yA | apply yN | apply yD | refine below_set ?_ GE266.out) | exact HB.out)) hb); clear HO_5; clear HO_6; clear BK266; clear HB; have HO_5 := n0_; have HO_6 := n1_; have BK266 := n2_; have HB := n3_; clear n0_ n1_ n2_ n3_; (try clear hb); (try clear hb2); (try clear hk); (try clear hi)) | ((with_reducible refine gate_dst (N := 9) rfl ?_); refine box_event ?hg (N := 9) ?hd (cs := #[.int .i64 0, .int .i64 0, .string (⟨#[]⟩ : ByteArray)]) (t := 25) ?hr ?_; (case hd => rfl); (case hg => rfl); (case hr => first | (go_simp; done) | (go_simp; rfl)); intro gb287 hg w36 hbox hb; have n0_ := Aside0.mk (Kd.R_below (Kd.R_elderB (by (with_reducible repeat (first | apply Kd.R_alloc | apply Kd.R_drewN | apply Kd.R_drew)); exact HO_5.out) gb287 (Nat.le_of_eq hg.symm)) hb); have n1_ := Aside0.mk (Kd.R_below (Kd.R_elderB (by (with_reducible repeat (first | apply Kd.R_alloc | apply Kd.R_drewN | apply Kd.R_drew)); exact HO_6.out) gb287 (Nat.le_of_eq hg.symm)) hb); have n2_ := Aside0.mk (blk_below (g := gb266) (o := .cells #[.int .i64 t280, .int .i64 t281, .string t282] 25 (0, 0)) (by (with_reducible repeat (first | refine zN ?_ _ | refine zD ?_ | refine zA ?_ _)); exact BK266.out) hb); have n3_ := Aside0.mk (below_step (by repeat (first | (with_reducible first | exact HB.out | apply yA | apply yN | apply yD | refine below_set ?_ GE266.out) | exact HB.out)) hb); have n4_ := Aside0.mk (hbox); have n5_ := Aside0.mk ((by rw [hg]; exact (below_size (by repeat (first | (with_reducible first | exact HB.out | apply yA | apply yN | apply yD | refine below_set ?_ GE266.out) | exact HB.out))) : w.heap.size ≤ gb287)); have n6_ := Aside0.mk ((by rw [hg]; exact (below_size (by repeat (first | (with_reducible first | exact HB.out | apply yA | apply yN | apply yD | refine below_set ?_ GE266.out) | exact HB.out))) : w.heap.size ≤ gb287)); have n7_ := Aside0.mk ((by rw [hg]; exact Nat.ne_of_lt (blk_lt (g := gb266) (o := .cells #[.int .i64 t280, .int .i64 t281, .string t282] 25 (0, 0)) (by (with_reducible repeat (first | refine zN ?_ _ | refine zD ?_ | refine zA ?_ _)); exact BK266.out)) : gb266 ≠ gb287)); have n8_ := Aside0.mk ((by rw [hg]; exact Nat.ne_of_gt (blk_lt (g := gb266) (o := .cells #[.int .i64 t280, .int .i64 t281, .string t282] 25 (0, 0)) (by (with_reducible repeat (first | refine zN ?_ _ | refine zD ?_ | refine zA ?_ _)); exact BK266.out)) : gb287 ≠ gb266)); clear HO_5; clear HO_6; clear BK266; clear HB; have HO_5 := n0_; have HO_6 := n1_; have BK266 := n2_; have HB := n3_; have BK287 := n4_; have GW287 := n5_; have GE287 := n6_; have NB266_287 := n7_; have NB287_266 := n8_; clear n0_ n1_ n2_ n3_ n4_ n5_ n6_ n7_ n8_; clear hb hbox hg; have hnb37 := NB287_266.out; have hnc37 := NB266_287.out; have hcz38_0 : w36.cell? ⟨gb287, 0, none⟩ = some (.int .i64 0) := (blk_cell BK287.out 0).trans rfl; have hcz38_1 : w36.cell? ⟨gb287, 1, none⟩ = some (.int .i64 0) := (blk_cell BK287.out 1).trans rfl; have hcz38_2 : w36.cell? ⟨gb287, 2, none⟩ = some (.string (⟨#[]⟩ : ByteArray)) := (blk_cell BK287.out 2).trans rfl; have hfz38_0 := blk_frozen BK287.out 0; have hfz38_1 := blk_frozen BK287.out 1; have hfz38_2 := blk_frozen BK287.out 2; have hcz39_0 : w36.cell? ⟨gb266, 0, none⟩ = some (.int .i64 t280) := (blk_cell BK266.out 0).trans rfl; have hcz39_1 : w36.cell? ⟨gb266, 1, none⟩ = some (.int .i64 t281) := (blk_cell BK266.out 1).trans rfl; have hcz39_2 : w36.cell? ⟨gb266, 2, none⟩ = some (.string t282) := (blk_cell BK266.out 2).trans rfl; have hfz39_0 := blk_frozen BK266.out 0; have hfz39_1 := blk_frozen BK266.out 1; have hfz39_2 := blk_frozen BK266.out 2) | ((with_reducible refine gate_builtin (b := .append) (xs := #[.tmp 57, .tmp 59]) rfl ?_); at_builtin; refine Kd.R_append k25 (w0 := w) w.heap.size rfl (.tmp 57) (.tmp 59) 33 25 (.agg #[(.int .i64 0), (.int .i64 0), (.string ⟨#[]⟩)]) 32 rfl Tryd.underlying33 info25 rfl (by decide) (by omega) u5 x5_1 (⟨t280, t281, t282⟩ : S25) [.int .i64 t280, .int .i64 t281, .string t282] (fun k_ => some k_ ≠ (u6 : Value).ownBlock ∧ k_ ≠ gb266 ∧ k_ ≠ gb287) (fun _ => False) rfl (by first | (go_simp; done) | (go_simp; rfl)) ?aP (fun _ hk => hk.elim) ?aF ?aO ?aB ?aS ?aL ?_; (case aP => exact k25_mkM _ _ _ (⟨t280, t281, t282⟩ : S25)); (case aB => exact (by repeat (first | (with_reducible first | exact HB.out | apply yA | apply yN | apply yD | refine below_set ?_ GE266.out | refine below_set ?_ GE287.out) | exact HB.out))); (case aF => exact (fun k_ hk => ⟨Kd.fresh' (Kd.R_lt (by (with_reducible repeat (first | apply Kd.R_alloc | apply Kd.R_drewN | apply Kd.R_drew)); exact (Kd.R_mono (Kd.R_far (p := ⟨gb287, 2, none⟩) (Kd.R_far (p := ⟨gb287, 1, none⟩) (Kd.R_far (p := ⟨gb287, 0, none⟩) (Kd.R_mono HO_6.out (fun k_ hk => (⟨hk, hk.2⟩ : _ ∧ k_ ≠ gb287))) (fun _ hk => hk.2) (.int .i64 t283)) (fun _ hk => hk.2) (.int .i64 t284)) (fun _ hk => hk.2) (.string t285)) (fun _ h_ => h_.1)))) k_ hk, Kd.freshB (g := gb266) (o := .cells #[.int .i64 t280, .int .i64 t281, .string t282] 25 (0, 0)) (by (with_reducible repeat (first | refine zN ?_ _ | refine zD ?_ | refine zA ?_ _)); refine blk_far ?_ NB266_287.out _; (with_reducible repeat (first | refine zN ?_ _ | refine zD ?_ | refine zA ?_ _)); refine blk_far ?_ NB266_287.out _; (with_reducible repeat (first | refine zN ?_ _ | refine zD ?_ | refine zA ?_ _)); refine blk_far ?_ NB266_287.out _; (with_reducible repeat (first | refine zN ?_ _ | refine zD ?_ | refine zA ?_ _)); exact BK266.out) k_ hk, Kd.freshB (g := gb287) (o := .cells #[.int .i64 t283, .int .i64 t284, .string t285] 25 (0, 0)) (by (with_reducible repeat (first | refine zN ?_ _ | refine zD ?_ | refine zA ?_ _)); refine blk_put (cs := #[.int .i64 t283, .int .i64 t284, .string (⟨#[]⟩ : ByteArray)]) ?_ 2 _ rfl; (with_reducible repeat (first | refine zN ?_ _ | refine zD ?_ | refine zA ?_ _)); refine blk_put (cs := #[.int .i64 t283, .int .i64 0, .string (⟨#[]⟩ : ByteArray)]) ?_ 1 _ rfl; (with_reducible repeat (first | refine zN ?_ _ | refine zD ?_ | refine zA ?_ _)); refine blk_put (cs := #[.int .i64 0, .int .i64 0, .string (⟨#[]⟩ : ByteArray)]) ?_ 0 _ rfl; (with_reducible repeat (first | refine zN ?_ _ | refine zD ?_ | refine zA ?_ _)); exact BK287.out) k_ hk⟩)); (case aO => exact (by (with_reducible repeat (first | apply Kd.R_alloc | apply Kd.R_drewN | apply Kd.R_drew)); exact Kd.R_mono (Kd.R_far (p := ⟨gb287, 2, none⟩) (Kd.R_far (p := ⟨gb287, 1, none⟩) (Kd.R_far (p := ⟨gb287, 0, none⟩) (Kd.R_mono HO_5.out (fun k_ hk => (⟨hk, hk.2⟩ : _ ∧ k_ ≠ gb287))) (fun _ hk => hk.2) (.int .i64 t283)) (fun _ hk => hk.2) (.int .i64 t284)) (fun _ hk => hk.2) (.string t285)) (fun _ hk => ⟨hk.1.1.1, ⟨hk.1.1.2, hk.1.2⟩⟩))); (case aS => exact (below_size (by repeat (first | (with_reducible first | exact HB.out | apply yA | apply yN | apply yD | refine below_set ?_ GE266.out | refine below_set ?_ GE287.out) | exact HB.out)))); (case aL => have := LMc28.out; omega); intro v289 w40 ho hb hg hat; rw [← Ny288.out] at ho; have n0_ := Aside0.mk (Kd.R_after (ok := (fun k_ => k_ ≠ gb266 ∧ k_ ≠ gb287)) (by (with_reducible repeat (first | apply Kd.R_alloc | apply Kd.R_drewN | apply Kd.R_drew)); exact Kd.R_mono (Kd.R_far (p := ⟨gb287, 2, none⟩) (Kd.R_far (p := ⟨gb287, 1, none⟩) (Kd.R_far (p := ⟨gb287, 0, none⟩) (Kd.R_mono HO_6.out (fun k_ hk => (⟨hk, hk.2⟩ : _ ∧ k_ ≠ gb287))) (fun _ hk => hk.2) (.int .i64 t283)) (fun _ hk => hk.2) (.int .i64 t284)) (fun _ hk => hk.2) (.string t285)) (fun _ hk => ⟨⟨hk.1.1.2, hk.1.2⟩, hk.1.1.1⟩)) hg hat); have n1_ := Aside0.mk (blk_grown (g := gb266) (o := .cells #[.int .i64 t280, .int .i64 t281, .string t282] 25 (0, 0)) (by (with_reducible repeat (first | refine zN ?_ _ | refine zD ?_ | refine zA ?_ _)); refine blk_far ?_ NB266_287.out _; (with_reducible repeat (first | refine zN ?_ _ | refine zD ?_ | refine zA ?_ _)); refine blk_far ?_ NB266_287.out _; (with_reducible repeat (first | refine zN ?_ _ | refine zD ?_ | refine zA ?_ _)); refine blk_far ?_ NB266_287.out _; (with_reducible repeat (first | refine zN ?_ _ | refine zD ?_ | refine zA ?_ _)); exact BK266.out) hg (Kd.R_away HO_5.out (fun _ hk => hk.1.2))); have n2_ := Aside0.mk (blk_grown (g := gb287) (o := .cells #[.int .i64 t283, .int .i64 t284, .string t285] 25 (0, 0)) (by (with_reducible repeat (first | refine zN ?_ _ | refine zD ?_ | refine zA ?_ _)); refine blk_put (cs := #[.int .i64 t283, .int .i64 t284, .string (⟨#[]⟩ : ByteArray)]) ?_ 2 _ rfl; (with_reducible repeat (first | refine zN ?_ _ | refine zD ?_ | refine zA ?_ _)); refine blk_put (cs := #[.int .i64 t283, .int .i64 0, .string (⟨#[]⟩ : ByteArray)]) ?_ 1 _ rfl; (with_reducible repeat (first | refine zN ?_ _ | refine zD ?_ | refine zA ?_ _)); refine blk_put (cs := #[.int .i64 0, .int .i64 0, .string (⟨#[]⟩ : ByteArray)]) ?_ 0 _ rfl; (with_reducible repeat (first | refine zN ?_ _ | refine zD ?_ | refine zA ?_ _)); exact BK287.out) hg (Kd.R_away HO_5.out (fun _ hk => hk.2))); have n3_ := Aside0.mk (hb); have n4_ := Aside0.mk (ho); clear HO_6; clear BK266; clear BK287; clear HB; clear HO_5; have HO_6 := n0_; have BK266 := n1_; have BK287 := n2_; have HB := n3_; have HO290 := n4_; clear n0_ n1_ n2_ n3_ n4_; clear ho hb hg hat; have hcz41_0 : w40.cell? ⟨gb287, 0, none⟩ = some (.int .i64 t283) := (blk_cell BK287.out 0).trans rfl; have hcz41_1 : w40.cell? ⟨gb287, 1, none⟩ = some (.int .i64 t284) := (blk_cell BK287.out 1).trans rfl; have hcz41_2 : w40.cell? ⟨gb287, 2, none⟩ = some (.string t285) := (blk_cell BK287.out 2).trans rfl; have hfz41_0 := blk_frozen BK287.out 0; have hfz41_1 := blk_frozen BK287.out 1; have hfz41_2 := blk_frozen BK287.out 2) | ((with_reducible refine gate_builtin (b := .append) (xs := #[.tmp 61, .tmp 63]) rfl ?_); at_builtin; refine Kd.R_append k25 (w0 := w) w.heap.size rfl (.tmp 61) (.tmp 63) 33 25 (.agg #[(.int .i64 0), (.int .i64 0), (.string ⟨#[]⟩)]) 32 rfl Tryd.underlying33 info25 rfl (by decide) (by omega) u6 x6_1 (⟨t283, t284, t285⟩ : S25) [.int .i64 t283, .int .i64 t284, .string t285] (fun k_ => some k_ ≠ (v289 : Value).ownBlock ∧ k_ ≠ gb266 ∧ k_ ≠ gb287) (fun _ => False) rfl rfl ?aP (fun _ hk => hk.elim) ?aF ?aO ?aB ?aS ?aL ?_; (case aP => exact k25_mkM _ _ _ (⟨t283, t284, t285⟩ : S25)); (case aB => exact (by repeat (first | (with_reducible first | exact HB.out | apply yA | apply yN | apply yD | refine below_set ?_ GE266.out | refine below_set ?_ GE287.out) | exact HB.out))); (case aF => exact (fun k_ hk => ⟨Kd.fresh' (Kd.R_lt (by (with_reducible repeat (first | apply Kd.R_alloc | apply Kd.R_drewN | apply Kd.R_drew)); exact HO290.out)) k_ hk, Kd.freshB (g := gb266) (o := .cells #[.int .i64 t280, .int .i64 t281, .string t282] 25 (0, 0)) (by (with_reducible repeat (first | refine zN ?_ _ | refine zD ?_ | refine zA ?_ _)); exact BK266.out) k_ hk, Kd.freshB (g := gb287) (o := .cells #[.int .i64 t283, .int .i64 t284, .string t285] 25 (0, 0)) (by (with_reducible repeat (first | refine zN ?_ _ | refine zD ?_ | refine zA ?_ _)); exact BK287.out) k_ hk⟩)); (case aO => exact (by (with_reducible repeat (first | apply Kd.R_alloc | apply Kd.R_drewN | apply Kd.R_drew)); exact Kd.R_mono HO_6.out (fun _ hk => ⟨hk.2, ⟨hk.1.1, hk.1.2⟩⟩))); (case aS => exact (below_size (by repeat (first | (with_reducible first | exact HB.out | apply yA | apply yN | apply yD | refine below_set ?_ GE266.out | refine below_set ?_ GE287.out) | exact HB.out)))); (case aL => have := LMc29.out; omega); intro v292 w42 ho hb hg hat; rw [← Ny291.out] at ho; have n0_ := Aside0.mk (blk_grown (g := gb266) (o := .cells #[.int .i64 t280, .int .i64 t281, .string t282] 25 (0, 0)) (by (with_reducible repeat (first | refine zN ?_ _ | refine zD ?_ | refine zA ?_ _)); exact BK266.out) hg (Kd.R_away HO_6.out (fun _ hk => hk.1.1))); have n1_ := Aside0.mk (blk_grown (g := gb287) (o := .cells #[.int .i64 t283, .int .i64 t284, .string t285] 25 (0, 0)) (by (with_reducible repeat (first | refine zN ?_ _ | refine zD ?_ | refine zA ?_ _)); exact BK287.out) hg (Kd.R_away HO_6.out (fun _ hk => hk.1.2))); have n2_ := Aside0.mk (Kd.R_after (ok := (fun k_ => k_ ≠ gb266 ∧ k_ ≠ gb287)) (by (with_reducible repeat (first | apply Kd.R_alloc | apply Kd.R_drewN | apply Kd.R_drew)); exact Kd.R_mono HO290.out (fun _ hk => ⟨⟨hk.2.1, hk.2.2⟩, hk.1⟩)) hg hat); have n3_ := Aside0.mk (hb); have n4_ := Aside0.mk (ho); clear BK266; clear BK287; clear HO290; clear HB; clear HO_6; have BK266 := n0_; have BK287 := n1_; have HO290 := n2_; have HB := n3_; have HO293 := n4_; clear n0_ n1_ n2_ n3_ n4_; clear ho hb hg hat))
                        go_roundg kj2
                        case measure => have := HK1.out; have := HJ2.out; omega
                        case rel => exact ⟨(y288), (y291), (wrap64 (x7_1 + 1)), (by first | rfl | (simp; done) | (simp [*]; done)), H', ⟨by have := HK1.out; have := HJ2.out; omega⟩, ⟨by (with_reducible repeat (first | apply Kd.R_alloc | apply Kd.R_drewN | apply Kd.R_drew)); exact Kd.R_mono HO290.out (fun _ hk => hk.2)⟩, ⟨by (with_reducible repeat (first | apply Kd.R_alloc | apply Kd.R_drewN | apply Kd.R_drew)); exact Kd.R_mono HO293.out (fun _ hk => hk.1)⟩, ⟨by repeat (first | (with_reducible first | exact HB.out | apply yA | apply yN | apply yD | refine below_set ?_ GE266.out | refine below_set ?_ GE287.out) | exact HB.out)⟩⟩
                      · rw [if_neg c29] at H
                        exact absurd H (by simp)
                    · rw [if_neg c28] at H
                      exact absurd H (by simp)
                  · rw [if_neg c27] at H
                    have c27b0 : (t286 == 0) = false := beq_eq_false_iff_ne.mpr c27
                    have c27b1 : (t286 != 0) = true := bne_iff_ne.mpr c27
                    exact absurd ((Option.some.inj H).trans hr_.out) (by decide)
              · rw [if_neg c8] at H
                exact absurd H (by simp)
            · rw [if_neg c7] at H
              exact absurd H (by simp)
          · replace c5 := Bool.eq_false_iff.mpr c5
            subst c5
            have H1 : ((value_And.f x5_1).bind fun bt294 => ((value_Or.f x6_1).bind fun bt299 => (if bt294.2.2.2 = 0 then (tacticianlaw01_ValueMorgan.j2 kj2 a1 x5_1 (bt299.2.2.2 != 0) bt294.1 bt294.2.1 bt294.2.2.1 bt299.1 bt299.2.1 bt299.2.2.1) else (tacticianlaw01_ValueMorgan.j2 kj2 a1 x5_1 true bt294.1 bt294.2.1 bt294.2.2.1 bt299.1 bt299.2.1 bt299.2.2.1)))) = some r := by rw [if_neg (show ¬ (false = true) by decide)] at H; exact H
            clear H
            have H := H1
            clear H1
            replace H := Option.bind_eq_some_iff.mp H
            obtain ⟨⟨t294, t295, t296, t297⟩, A430, H⟩ := H
            replace H : ((value_Or.f x6_1).bind fun bt299 => (if t297 = 0 then (tacticianlaw01_ValueMorgan.j2 kj2 a1 x5_1 (bt299.2.2.2 != 0) t294 t295 t296 bt299.1 bt299.2.1 bt299.2.2.1) else (tacticianlaw01_ValueMorgan.j2 kj2 a1 x5_1 true t294 t295 t296 bt299.1 bt299.2.1 bt299.2.2.1))) = some r := H
            have A43 := Aside0.mk A430
            clear A430
            replace H := Option.bind_eq_some_iff.mp H
            obtain ⟨⟨t299, t300, t301, t302⟩, A440, H⟩ := H
            replace H : (if t297 = 0 then (tacticianlaw01_ValueMorgan.j2 kj2 a1 x5_1 (t302 != 0) t294 t295 t296 t299 t300 t301) else (tacticianlaw01_ValueMorgan.j2 kj2 a1 x5_1 true t294 t295 t296 t299 t300 t301)) = some r := H
            have A44 := Aside0.mk A440
            clear A440
            have HC45 := Aside0.mk H
            clear H
            obtain ⟨Ao46, co46, eo46⟩ := Kd.R_slice HO_5.out
            subst eo46
            go_upto_region 15 with (first | ((with_reducible refine gate_callee (f := 22) rfl ?_); refine goesL_ (some 67) rfl rfl Tryd.func22 (by kernel_rfl) rfl #[.slice Ao46 x5_1.length co46] rfl (by (try simp only [List.map_toArray, List.map_cons, List.map_nil]); first | done | rfl | (simp only [List.length_drop, List.length_take]; rfl)) ?_; (with_reducible refine (value_And.calls _ _ x5_1 t294 t295 t296 t297 _ ?side1 ?side2 A43.out).mono ?_); (case side1 => repeat (first | exact (Kd.R_reads' HO_5.out).2.2 | (with_reducible refine Kd.C_alloc ?_ _) | (with_reducible refine Kd.C_drewN ?_ _) | (with_reducible refine Kd.C_drew ?_))); (case side2 => exact (Kd.R_reads' HO_5.out).2.1); rintro e w47 ⟨rfl, hb⟩; refine ⟨_, rfl, ?_⟩; have n0_ := Aside0.mk (Kd.R_below (by (with_reducible repeat (first | apply Kd.R_alloc | apply Kd.R_drewN | apply Kd.R_drew)); exact HO_5.out) hb); have n1_ := Aside0.mk (Kd.R_below (by (with_reducible repeat (first | apply Kd.R_alloc | apply Kd.R_drewN | apply Kd.R_drew)); exact HO_6.out) hb); have n2_ := Aside0.mk (below_step (by repeat (first | (with_reducible first | exact HB.out | apply yA | apply yN | apply yD) | exact HB.out)) hb); clear HO_5; clear HO_6; clear HB; have HO_5 := n0_; have HO_6 := n1_; have HB := n2_; clear n0_ n1_ n2_; (try clear hb); (try clear hb2); (try clear hk); (try clear hi)) | ((with_reducible refine gate_dst (N := 11) rfl ?_); refine box_event ?hg (N := 11) ?hd (cs := #[.int .i64 0, .int .i64 0, .string (⟨#[]⟩ : ByteArray)]) (t := 25) ?hr ?_; (case hd => rfl); (case hg => rfl); (case hr => first | (go_simp; done) | (go_simp; rfl)); intro gb298 hg w48 hbox hb; have n0_ := Aside0.mk (Kd.R_below (Kd.R_elderB (by (with_reducible repeat (first | apply Kd.R_alloc | apply Kd.R_drewN | apply Kd.R_drew)); exact HO_5.out) gb298 (Nat.le_of_eq hg.symm)) hb); have n1_ := Aside0.mk (Kd.R_below (Kd.R_elderB (by (with_reducible repeat (first | apply Kd.R_alloc | apply Kd.R_drewN | apply Kd.R_drew)); exact HO_6.out) gb298 (Nat.le_of_eq hg.symm)) hb); have n2_ := Aside0.mk (below_step (by repeat (first | (with_reducible first | exact HB.out | apply yA | apply yN | apply yD) | exact HB.out)) hb); have n3_ := Aside0.mk (hbox); have n4_ := Aside0.mk ((by rw [hg]; exact (below_size (by repeat (first | (with_reducible first | exact HB.out | apply yA | apply yN | apply yD) | exact HB.out))) : w.heap.size ≤ gb298)); have n5_ := Aside0.mk ((by rw [hg]; exact (below_size (by repeat (first | (with_reducible first | exact HB.out | apply yA | apply yN | apply yD) | exact HB.out))) : w.heap.size ≤ gb298)); clear HO_5; clear HO_6; clear HB; have HO_5 := n0_; have HO_6 := n1_; have HB := n2_; have BK298 := n3_; have GW298 := n4_; have GE298 := n5_; clear n0_ n1_ n2_ n3_ n4_ n5_; clear hb hbox hg; have hcz49_0 : w48.cell? ⟨gb298, 0, none⟩ = some (.int .i64 0) := (blk_cell BK298.out 0).trans rfl; have hcz49_1 : w48.cell? ⟨gb298, 1, none⟩ = some (.int .i64 0) := (blk_cell BK298.out 1).trans rfl; have hcz49_2 : w48.cell? ⟨gb298, 2, none⟩ = some (.string (⟨#[]⟩ : ByteArray)) := (blk_cell BK298.out 2).trans rfl; have hfz49_0 := blk_frozen BK298.out 0; have hfz49_1 := blk_frozen BK298.out 1; have hfz49_2 := blk_frozen BK298.out 2; obtain ⟨Ao50, co50, eo50⟩ := Kd.R_slice HO_6.out; subst eo50) | ((with_reducible refine gate_callee (f := 23) rfl ?_); refine goesL_ (some 72) rfl rfl Tryd.func23 (by kernel_rfl) rfl #[.slice Ao50 x6_1.length co50] rfl (by (try simp only [List.map_toArray, List.map_cons, List.map_nil]); first | done | rfl | (simp only [List.length_drop, List.length_take]; rfl)) ?_; (with_reducible refine (value_Or.calls _ _ x6_1 t299 t300 t301 t302 _ ?side1 ?side2 A44.out).mono ?_); (case side1 => refine (Kd.R_reads' (e := 25) (base := w.heap.size) (ok := fun k_ => (some k_ ≠ (.slice Ao46 x5_1.length co46 : Value).ownBlock ∧ k_ ≠ gb298)) (n := x6_1.length) (c := co50) ?_).2.2; exact (by (with_reducible repeat (first | apply Kd.R_alloc | apply Kd.R_drewN | apply Kd.R_drew)); exact (Kd.R_mono (Kd.R_far (p := ⟨gb298, 2, none⟩) (Kd.R_far (p := ⟨gb298, 1, none⟩) (Kd.R_far (p := ⟨gb298, 0, none⟩) (Kd.R_mono HO_6.out (fun k_ hk => (⟨hk, hk.2⟩ : _ ∧ k_ ≠ gb298))) (fun _ hk => hk.2) (.int .i64 t294)) (fun _ hk => hk.2) (.int .i64 t295)) (fun _ hk => hk.2) (.string t296)) (fun _ h_ => h_.1)))); (case side2 => exact (Kd.R_reads' HO_6.out).2.1); rintro e w51 ⟨rfl, hb⟩; refine ⟨_, rfl, ?_⟩; have n0_ := Aside0.mk (Kd.R_below (by (with_reducible repeat (first | apply Kd.R_alloc | apply Kd.R_drewN | apply Kd.R_drew)); exact (Kd.R_mono (Kd.R_far (p := ⟨gb298, 2, none⟩) (Kd.R_far (p := ⟨gb298, 1, none⟩) (Kd.R_far (p := ⟨gb298, 0, none⟩) (Kd.R_mono HO_5.out (fun k_ hk => (⟨hk, hk.2⟩ : _ ∧ k_ ≠ gb298))) (fun _ hk => hk.2) (.int .i64 t294)) (fun _ hk => hk.2) (.int .i64 t295)) (fun _ hk => hk.2) (.string t296)) (fun _ h_ => h_.1))) hb); have n1_ := Aside0.mk (Kd.R_below (by (with_reducible repeat (first | apply Kd.R_alloc | apply Kd.R_drewN | apply Kd.R_drew)); exact (Kd.R_mono (Kd.R_far (p := ⟨gb298, 2, none⟩) (Kd.R_far (p := ⟨gb298, 1, none⟩) (Kd.R_far (p := ⟨gb298, 0, none⟩) (Kd.R_mono HO_6.out (fun k_ hk => (⟨hk, hk.2⟩ : _ ∧ k_ ≠ gb298))) (fun _ hk => hk.2) (.int .i64 t294)) (fun _ hk => hk.2) (.int .i64 t295)) (fun _ hk => hk.2) (.string t296)) (fun _ h_ => h_.1))) hb); have n2_ := Aside0.mk (blk_below (g := gb298) (o := .cells #[.int .i64 t294, .int .i64 t295, .string t296] 25 (0, 0)) (by (with_reducible repeat (first | refine zN ?_ _ | refine zD ?_ | refine zA ?_ _)); refine blk_put (cs := #[.int .i64 t294, .int .i64 t295, .string (⟨#[]⟩ : ByteArray)]) ?_ 2 _ rfl; (with_reducible repeat (first | refine zN ?_ _ | refine zD ?_ | refine zA ?_ _)); refine blk_put (cs := #[.int .i64 t294, .int .i64 0, .string (⟨#[]⟩ : ByteArray)]) ?_ 1 _ rfl; (with_reducible repeat (first | refine zN ?_ _ | refine zD ?_ | refine zA ?_ _)); refine blk_put (cs := #[.int .i64 0, .int .i64 0, .string (⟨#[]⟩ : ByteArray)]) ?_ 0 _ rfl; (with_reducible repeat (first | refine zN ?_ _ | refine zD ?_ | refine zA ?_ _)); exact BK298.out) hb); have n3_ := Aside0.mk (below_step (by repeat (first | (with_reducible first | exact HB.out | apply yA | apply yN | apply yD | refine below_set ?_ GE298.out) | exact HB.out)) hb); clear HO_5; clear HO_6; clear BK298; clear HB; have HO_5 := n0_; have HO_6 := n1_; have BK298 := n2_; have HB := n3_; clear n0_ n1_ n2_ n3_; (try clear hb); (try clear hb2); (try clear hk); (try clear hi)) | ((with_reducible refine gate_dst (N := 13) rfl ?_); refine box_event ?hg (N := 13) ?hd (cs := #[.int .i64 0, .int .i64 0, .string (⟨#[]⟩ : ByteArray)]) (t := 25) ?hr ?_; (case hd => rfl); (case hg => rfl); (case hr => first | (go_simp; done) | (go_simp; rfl)); intro gb303 hg w52 hbox hb; have n0_ := Aside0.mk (Kd.R_below (Kd.R_elderB (by (with_reducible repeat (first | apply Kd.R_alloc | apply Kd.R_drewN | apply Kd.R_drew)); exact HO_5.out) gb303 (Nat.le_of_eq hg.symm)) hb); have n1_ := Aside0.mk (Kd.R_below (Kd.R_elderB (by (with_reducible repeat (first | apply Kd.R_alloc | apply Kd.R_drewN | apply Kd.R_drew)); exact HO_6.out) gb303 (Nat.le_of_eq hg.symm)) hb); have n2_ := Aside0.mk (blk_below (g := gb298) (o := .cells #[.int .i64 t294, .int .i64 t295, .string t296] 25 (0, 0)) (by (with_reducible repeat (first | refine zN ?_ _ | refine zD ?_ | refine zA ?_ _)); exact BK298.out) hb); have n3_ := Aside0.mk (below_step (by repeat (first | (with_reducible first | exact HB.out | apply yA | apply yN | apply yD | refine below_set ?_ GE298.out) | exact HB.out)) hb); have n4_ := Aside0.mk (hbox); have n5_ := Aside0.mk ((by rw [hg]; exact (below_size (by repeat (first | (with_reducible first | exact HB.out | apply yA | apply yN | apply yD | refine below_set ?_ GE298.out) | exact HB.out))) : w.heap.size ≤ gb303)); have n6_ := Aside0.mk ((by rw [hg]; exact (below_size (by repeat (first | (with_reducible first | exact HB.out | apply yA | apply yN | apply yD | refine below_set ?_ GE298.out) | exact HB.out))) : w.heap.size ≤ gb303)); have n7_ := Aside0.mk ((by rw [hg]; exact Nat.ne_of_lt (blk_lt (g := gb298) (o := .cells #[.int .i64 t294, .int .i64 t295, .string t296] 25 (0, 0)) (by (with_reducible repeat (first | refine zN ?_ _ | refine zD ?_ | refine zA ?_ _)); exact BK298.out)) : gb298 ≠ gb303)); have n8_ := Aside0.mk ((by rw [hg]; exact Nat.ne_of_gt (blk_lt (g := gb298) (o := .cells #[.int .i64 t294, .int .i64 t295, .string t296] 25 (0, 0)) (by (with_reducible repeat (first | refine zN ?_ _ | refine zD ?_ | refine zA ?_ _)); exact BK298.out)) : gb303 ≠ gb298)); clear HO_5; clear HO_6; clear BK298; clear HB; have HO_5 := n0_; have HO_6 := n1_; have BK298 := n2_; have HB := n3_; have BK303 := n4_; have GW303 := n5_; have GE303 := n6_; have NB298_303 := n7_; have NB303_298 := n8_; clear n0_ n1_ n2_ n3_ n4_ n5_ n6_ n7_ n8_; clear hb hbox hg; have hnb53 := NB303_298.out; have hnc53 := NB298_303.out; have hcz54_0 : w52.cell? ⟨gb303, 0, none⟩ = some (.int .i64 0) := (blk_cell BK303.out 0).trans rfl; have hcz54_1 : w52.cell? ⟨gb303, 1, none⟩ = some (.int .i64 0) := (blk_cell BK303.out 1).trans rfl; have hcz54_2 : w52.cell? ⟨gb303, 2, none⟩ = some (.string (⟨#[]⟩ : ByteArray)) := (blk_cell BK303.out 2).trans rfl; have hfz54_0 := blk_frozen BK303.out 0; have hfz54_1 := blk_frozen BK303.out 1; have hfz54_2 := blk_frozen BK303.out 2))
            (try simp only [Act.put, List.setIfInBounds_toArray, List.set_cons_zero, List.set_cons_succ])
            go_cut [80] (fun v80 wc => ∃ (kq : Nat) (x80_44 : Bool), v80 = .bool x80_44 ∧ Aside0 (tacticianlaw01_ValueMorgan.j2 kq a1 x5_1 x80_44 t294 t295 t296 t299 t300 t301 = some r) ∧ Aside0 (kq ≤ kj2) ∧ Aside0 (Kd.R k25 25 wc w.heap.size (fun k_ => k_ ≠ gb298 ∧ k_ ≠ gb303) (.slice Ao46 x5_1.length co46) x5_1) ∧ Aside0 (wc.heap[gb298]? = some (.cells #[.int .i64 t294, .int .i64 t295, .string t296] 25 (0, 0))) ∧ Aside0 (wc.heap[gb303]? = some (.cells #[.int .i64 t299, .int .i64 t300, .string t301] 25 (0, 0))) ∧ Aside0 (Below w.heap.size w wc))
            case first =>
              have H := HC45.out
              clear HC45
              by_cases c55 : t297 = 0
              · rw [if_pos c55] at H
                have c55b0 : (t297 == 0) = true := beq_iff_eq.mpr c55
                have c55b1 : (t297 != 0) = false := bne_eq_false_iff_eq.mpr c55
                clear c55
                (first | rw [c55b0] | (simp only [i64_w, i32_w]; rw [c55b0]) | skip)
                have H' := Aside0.mk H
                clear H
                go_wp2
                go_meet
                case rel => exact ⟨_, ((t302 != 0)), (by first | rfl | (simp; done) | (simp [*]; done)), H', ⟨by have := HK1.out; have := HJ2.out; first | omega | exact Nat.le_refl _⟩, ⟨by (with_reducible repeat (first | apply Kd.R_alloc | apply Kd.R_drewN | apply Kd.R_drew)); exact Kd.R_mono (Kd.R_far (p := ⟨gb303, 2, none⟩) (Kd.R_far (p := ⟨gb303, 1, none⟩) (Kd.R_far (p := ⟨gb303, 0, none⟩) (Kd.R_mono HO_5.out (fun k_ hk => (⟨hk, hk.2⟩ : _ ∧ k_ ≠ gb303))) (fun _ hk => hk.2) (.int .i64 t299)) (fun _ hk => hk.2) (.int .i64 t300)) (fun _ hk => hk.2) (.string t301)) (fun _ hk => ⟨hk.1.1.2, hk.1.2⟩)⟩, ⟨by (with_reducible repeat (first | refine zN ?_ _ | refine zD ?_ | refine zA ?_ _)); refine blk_far ?_ NB298_303.out _; (with_reducible repeat (first | refine zN ?_ _ | refine zD ?_ | refine zA ?_ _)); refine blk_far ?_ NB298_303.out _; (with_reducible repeat (first | refine zN ?_ _ | refine zD ?_ | refine zA ?_ _)); refine blk_far ?_ NB298_303.out _; (with_reducible repeat (first | refine zN ?_ _ | refine zD ?_ | refine zA ?_ _)); exact BK298.out⟩, ⟨by (with_reducible repeat (first | refine zN ?_ _ | refine zD ?_ | refine zA ?_ _)); refine blk_put (cs := #[.int .i64 t299, .int .i64 t300, .string (⟨#[]⟩ : ByteArray)]) ?_ 2 _ rfl; (with_reducible repeat (first | refine zN ?_ _ | refine zD ?_ | refine zA ?_ _)); refine blk_put (cs := #[.int .i64 t299, .int .i64 0, .string (⟨#[]⟩ : ByteArray)]) ?_ 1 _ rfl; (with_reducible repeat (first | refine zN ?_ _ | refine zD ?_ | refine zA ?_ _)); refine blk_put (cs := #[.int .i64 0, .int .i64 0, .string (⟨#[]⟩ : ByteArray)]) ?_ 0 _ rfl; (with_reducible repeat (first | refine zN ?_ _ | refine zD ?_ | refine zA ?_ _)); exact BK303.out⟩, ⟨by repeat (first | (with_reducible first | exact HB.out | apply yA | apply yN | apply yD | refine below_set ?_ GE298.out | refine below_set ?_ GE303.out) | exact HB.out)⟩⟩
              · rw [if_neg c55] at H
                have c55b0 : (t297 == 0) = false := beq_eq_false_iff_ne.mpr c55
                have c55b1 : (t297 != 0) = true := bne_iff_ne.mpr c55
                (first | rw [c55b0] | (simp only [i64_w, i32_w]; rw [c55b0]) | skip)
                have H' := Aside0.mk H
                clear H
                go_wp2
                go_meet
                case rel => exact ⟨_, (true), (by first | rfl | (simp; done) | (simp [*]; done)), H', ⟨by have := HK1.out; have := HJ2.out; first | omega | exact Nat.le_refl _⟩, ⟨by (with_reducible repeat (first | apply Kd.R_alloc | apply Kd.R_drewN | apply Kd.R_drew)); exact Kd.R_mono (Kd.R_far (p := ⟨gb303, 2, none⟩) (Kd.R_far (p := ⟨gb303, 1, none⟩) (Kd.R_far (p := ⟨gb303, 0, none⟩) (Kd.R_mono HO_5.out (fun k_ hk => (⟨hk, hk.2⟩ : _ ∧ k_ ≠ gb303))) (fun _ hk => hk.2) (.int .i64 t299)) (fun _ hk => hk.2) (.int .i64 t300)) (fun _ hk => hk.2) (.string t301)) (fun _ hk => ⟨hk.1.1.2, hk.1.2⟩)⟩, ⟨by (with_reducible repeat (first | refine zN ?_ _ | refine zD ?_ | refine zA ?_ _)); refine blk_far ?_ NB298_303.out _; (with_reducible repeat (first | refine zN ?_ _ | refine zD ?_ | refine zA ?_ _)); refine blk_far ?_ NB298_303.out _; (with_reducible repeat (first | refine zN ?_ _ | refine zD ?_ | refine zA ?_ _)); refine blk_far ?_ NB298_303.out _; (with_reducible repeat (first | refine zN ?_ _ | refine zD ?_ | refine zA ?_ _)); exact BK298.out⟩, ⟨by (with_reducible repeat (first | refine zN ?_ _ | refine zD ?_ | refine zA ?_ _)); refine blk_put (cs := #[.int .i64 t299, .int .i64 t300, .string (⟨#[]⟩ : ByteArray)]) ?_ 2 _ rfl; (with_reducible repeat (first | refine zN ?_ _ | refine zD ?_ | refine zA ?_ _)); refine blk_put (cs := #[.int .i64 t299, .int .i64 0, .string (⟨#[]⟩ : ByteArray)]) ?_ 1 _ rfl; (with_reducible repeat (first | refine zN ?_ _ | refine zD ?_ | refine zA ?_ _)); refine blk_put (cs := #[.int .i64 0, .int .i64 0, .string (⟨#[]⟩ : ByteArray)]) ?_ 0 _ rfl; (with_reducible repeat (first | refine zN ?_ _ | refine zD ?_ | refine zA ?_ _)); exact BK303.out⟩, ⟨by repeat (first | (with_reducible first | exact HB.out | apply yA | apply yN | apply yD | refine below_set ?_ GE298.out | refine below_set ?_ GE303.out) | exact HB.out)⟩⟩
            case rest =>
              clear HC45
              try clear c1
              try clear c2
              try clear p2
              try clear q2
              try clear hx2
              try clear c3
              try clear c4
              try clear c4b0
              try clear c5
              try clear c6
              try clear p6
              try clear c7
              try clear c7b0
              try clear c8
              try clear c8b0
              try clear c9
              try clear c9b0
              try clear c9b1
              try clear c11
              try clear c11b0
              try clear c11b1
              try clear c12
              try clear c13
              try clear c19
              try clear c20
              try clear c21
              try clear c22
              try clear c23
              try clear p26
              try clear q26
              try clear hx26
              try clear c27
              try clear c27b0
              try clear c27b1
              try clear p27
              try clear q27
              try clear hx27
              try clear c28
              try clear c29
              try clear c37
              try clear c53
              try clear c55
              try clear c55b0
              try clear c55b1
              try clear hcz16_0
              try clear hcz16_1
              try clear hcz16_2
              try clear hcz20_0
              try clear hcz20_1
              try clear hcz20_2
              try clear hcz21_0
              try clear hcz21_1
              try clear hcz21_2
              try clear hcz23_0
              try clear hcz23_1
              try clear hcz23_2
              try clear hcz32_0
              try clear hcz32_1
              try clear hcz32_2
              try clear hcz34_0
              try clear hcz34_1
              try clear hcz34_2
              try clear hcz38_0
              try clear hcz38_1
              try clear hcz38_2
              try clear hcz39_0
              try clear hcz39_1
              try clear hcz39_2
              try clear hcz41_0
              try clear hcz41_1
              try clear hcz41_2
              try clear hcz49_0
              try clear hcz49_1
              try clear hcz49_2
              try clear hcz54_0
              try clear hcz54_1
              try clear hcz54_2
              try clear hfz16_0
              try clear hfz16_1
              try clear hfz16_2
              try clear hfz20_0
              try clear hfz20_1
              try clear hfz20_2
              try clear hfz21_0
              try clear hfz21_1
              try clear hfz21_2
              try clear hfz23_0
              try clear hfz23_1
              try clear hfz23_2
              try clear hfz32_0
              try clear hfz32_1
              try clear hfz32_2
              try clear hfz34_0
              try clear hfz34_1
              try clear hfz34_2
              try clear hfz38_0
              try clear hfz38_1
              try clear hfz38_2
              try clear hfz39_0
              try clear hfz39_1
              try clear hfz39_2
              try clear hfz41_0
              try clear hfz41_1
              try clear hfz41_2
              try clear hfz49_0
              try clear hfz49_1
              try clear hfz49_2
              try clear hfz54_0
              try clear hfz54_1
              try clear hfz54_2
              try clear hx267_0
              try clear hx267_1
              try clear hx267_2
              try clear hx279_0
              try clear hx279_1
              try clear hx279_2
              try clear p2
              try clear p267
              try clear p279
              try clear q267
              try clear q279
              obtain ⟨kq, x80_44, rfl, HA, HJ44, HO_5, BK298, BK303, HB⟩ := hcut
              cases kq with
              | zero => exact absurd HA.out (by simp [tacticianlaw01_ValueMorgan.j2])
              | succ kj44 =>
                have H := HA.out
                clear HA
                simp only [tacticianlaw01_ValueMorgan.j2] at H
                by_cases c56 : x80_44 = true
                · subst c56
                  have H1 : (some false) = some r := by rw [if_pos rfl] at H; exact H
                  clear H
                  have H := H1
                  clear H1
                  exact absurd ((Option.some.inj H).trans hr_.out) (by decide)
                · replace c56 := Bool.eq_false_iff.mpr c56
                  subst c56
                  have H1 : ((value_Not.f t294 t295 t296).bind fun bt304 => (if bt304.2.2.2 = 0 then (tacticianlaw01_ValueMorgan.j3 kj44 a1 x5_1 (!(bt304.1 == t299) || (!(bt304.2.1 == t300) || (!(bt304.2.2.1.toList == t301.toList)))) t294 t295 t296) else (tacticianlaw01_ValueMorgan.j3 kj44 a1 x5_1 true t294 t295 t296))) = some r := by rw [if_neg (show ¬ (false = true) by decide)] at H; exact H
                  clear H
                  have H := H1
                  clear H1
                  replace H := Option.bind_eq_some_iff.mp H
                  obtain ⟨⟨t304, t305, t306, t307⟩, A570, H⟩ := H
                  replace H : (if t307 = 0 then (tacticianlaw01_ValueMorgan.j3 kj44 a1 x5_1 (!(t304 == t299) || (!(t305 == t300) || (!(t306.toList == t301.toList)))) t294 t295 t296) else (tacticianlaw01_ValueMorgan.j3 kj44 a1 x5_1 true t294 t295 t296)) = some r := H
                  have A57 := Aside0.mk A570
                  clear A570
                  have HC58 := Aside0.mk H
                  clear H
                  have hnb59 := NB298_303.out
                  have hnc59 := NB303_298.out
                  have hcz60_0 : wc.cell? ⟨gb298, 0, none⟩ = some (.int .i64 t294) := (blk_cell BK298.out 0).trans rfl
                  have hcz60_1 : wc.cell? ⟨gb298, 1, none⟩ = some (.int .i64 t295) := (blk_cell BK298.out 1).trans rfl
                  have hcz60_2 : wc.cell? ⟨gb298, 2, none⟩ = some (.string t296) := (blk_cell BK298.out 2).trans rfl
                  have hfz60_0 := blk_frozen BK298.out 0
                  have hfz60_1 := blk_frozen BK298.out 1
                  have hfz60_2 := blk_frozen BK298.out 2
                  go_upto_region 18 with (first | ((with_reducible refine gate_callee (f := 21) rfl ?_); refine goesL_ (some 83) rfl rfl Tryd.func21 (by kernel_rfl) rfl #[.agg #[.int .i64 t294, .int .i64 t295, .string t296]] rfl (by (try simp only [List.map_toArray, List.map_cons, List.map_nil]); first | done | rfl | (simp only [List.length_drop, List.length_take]; rfl)) ?_; (with_reducible refine (value_Not.calls t294 t295 t296 t304 t305 t306 t307 _ A57.out).mono ?_); rintro e w61 ⟨rfl, hb⟩; refine ⟨_, rfl, ?_⟩; have n0_ := Aside0.mk (Kd.R_below (by (with_reducible repeat (first | apply Kd.R_alloc | apply Kd.R_drewN | apply Kd.R_drew)); exact HO_5.out) hb); have n1_ := Aside0.mk (blk_below (g := gb298) (o := .cells #[.int .i64 t294, .int .i64 t295, .string t296] 25 (0, 0)) (by (with_reducible repeat (first | refine zN ?_ _ | refine zD ?_ | refine zA ?_ _)); exact BK298.out) hb); have n2_ := Aside0.mk (blk_below (g := gb303) (o := .cells #[.int .i64 t299, .int .i64 t300, .string t301] 25 (0, 0)) (by (with_reducible repeat (first | refine zN ?_ _ | refine zD ?_ | refine zA ?_ _)); exact BK303.out) hb); have n3_ := Aside0.mk (below_step (by repeat (first | (with_reducible first | exact HB.out | apply yA | apply yN | apply yD | refine below_set ?_ GE298.out | refine below_set ?_ GE303.out) | exact HB.out)) hb); clear HO_5; clear BK298; clear BK303; clear HB; have HO_5 := n0_; have BK298 := n1_; have BK303 := n2_; have HB := n3_; clear n0_ n1_ n2_ n3_; (try clear hb); (try clear hb2); (try clear hk); (try clear hi)) | ((with_reducible refine gate_dst (N := 15) rfl ?_); refine box_event ?hg (N := 15) ?hd (cs := #[.int .i64 0, .int .i64 0, .string (⟨#[]⟩ : ByteArray)]) (t := 25) ?hr ?_; (case hd => rfl); (case hg => rfl); (case hr => first | (go_simp; done) | (go_simp; rfl)); intro gb308 hg w62 hbox hb; have n0_ := Aside0.mk (Kd.R_below (Kd.R_elderB (by (with_reducible repeat (first | apply Kd.R_alloc | apply Kd.R_drewN | apply Kd.R_drew)); exact HO_5.out) gb308 (Nat.le_of_eq hg.symm)) hb); have n1_ := Aside0.mk (blk_below (g := gb298) (o := .cells #[.int .i64 t294, .int .i64 t295, .string t296] 25 (0, 0)) (by (with_reducible repeat (first | refine zN ?_ _ | refine zD ?_ | refine zA ?_ _)); exact BK298.out) hb); have n2_ := Aside0.mk (blk_below (g := gb303) (o := .cells #[.int .i64 t299, .int .i64 t300, .string t301] 25 (0, 0)) (by (with_reducible repeat (first | refine zN ?_ _ | refine zD ?_ | refine zA ?_ _)); exact BK303.out) hb); have n3_ := Aside0.mk (below_step (by repeat (first | (with_reducible first | exact HB.out | apply yA | apply yN | apply yD | refine below_set ?_ GE298.out | refine below_set ?_ GE303.out) | exact HB.out)) hb); have n4_ := Aside0.mk (hbox); have n5_ := Aside0.mk ((by rw [hg]; exact (below_size (by repeat (first | (with_reducible first | exact HB.out | apply yA | apply yN | apply yD | refine below_set ?_ GE298.out | refine below_set ?_ GE303.out) | exact HB.out))) : w.heap.size ≤ gb308)); have n6_ := Aside0.mk ((by rw [hg]; exact (below_size (by repeat (first | (with_reducible first | exact HB.out | apply yA | apply yN | apply yD | refine below_set ?_ GE298.out | refine below_set ?_ GE303.out) | exact HB.out))) : w.heap.size ≤ gb308)); have n7_ := Aside0.mk ((by rw [hg]; exact Nat.ne_of_lt (blk_lt (g := gb298) (o := .cells #[.int .i64 t294, .int .i64 t295, .string t296] 25 (0, 0)) (by (with_reducible repeat (first | refine zN ?_ _ | refine zD ?_ | refine zA ?_ _)); exact BK298.out)) : gb298 ≠ gb308)); have n8_ := Aside0.mk ((by rw [hg]; exact Nat.ne_of_gt (blk_lt (g := gb298) (o := .cells #[.int .i64 t294, .int .i64 t295, .string t296] 25 (0, 0)) (by (with_reducible repeat (first | refine zN ?_ _ | refine zD ?_ | refine zA ?_ _)); exact BK298.out)) : gb308 ≠ gb298)); have n9_ := Aside0.mk ((by rw [hg]; exact Nat.ne_of_lt (blk_lt (g := gb303) (o := .cells #[.int .i64 t299, .int .i64 t300, .string t301] 25 (0, 0)) (by (with_reducible repeat (first | refine zN ?_ _ | refine zD ?_ | refine zA ?_ _)); exact BK303.out)) : gb303 ≠ gb308)); have n10_ := Aside0.mk ((by rw [hg]; exact Nat.ne_of_gt (blk_lt (g := gb303) (o := .cells #[.int .i64 t299, .int .i64 t300, .string t301] 25 (0, 0)) (by (with_reducible repeat (first | refine zN ?_ _ | refine zD ?_ | refine zA ?_ _)); exact BK303.out)) : gb308 ≠ gb303)); clear HO_5; clear BK298; clear BK303; clear HB; have HO_5 := n0_; have BK298 := n1_; have BK303 := n2_; have HB := n3_; have BK308 := n4_; have GW308 := n5_; have GE308 := n6_; have NB298_308 := n7_; have NB308_298 := n8_; have NB303_308 := n9_; have NB308_303 := n10_; clear n0_ n1_ n2_ n3_ n4_ n5_ n6_ n7_ n8_ n9_ n10_; clear hb hbox hg; have hnb63 := NB308_298.out; have hnc63 := NB298_308.out; have hnb64 := NB308_303.out; have hnc64 := NB303_308.out; have hcz65_0 : w62.cell? ⟨gb308, 0, none⟩ = some (.int .i64 0) := (blk_cell BK308.out 0).trans rfl; have hcz65_1 : w62.cell? ⟨gb308, 1, none⟩ = some (.int .i64 0) := (blk_cell BK308.out 1).trans rfl; have hcz65_2 : w62.cell? ⟨gb308, 2, none⟩ = some (.string (⟨#[]⟩ : ByteArray)) := (blk_cell BK308.out 2).trans rfl; have hfz65_0 := blk_frozen BK308.out 0; have hfz65_1 := blk_frozen BK308.out 1; have hfz65_2 := blk_frozen BK308.out 2))
                  (try simp only [Act.put, List.setIfInBounds_toArray, List.set_cons_zero, List.set_cons_succ])
                  go_cut [92] (fun v92 wc => ∃ (kq : Nat) (x92_57 : Bool), v92 = .bool x92_57 ∧ Aside0 (tacticianlaw01_ValueMorgan.j3 kq a1 x5_1 x92_57 t294 t295 t296 = some r) ∧ Aside0 (kq ≤ kj44) ∧ Aside0 (Kd.R k25 25 wc w.heap.size (fun k_ => k_ ≠ gb298 ∧ k_ ≠ gb303 ∧ k_ ≠ gb308) (.slice Ao46 x5_1.length co46) x5_1) ∧ Aside0 (wc.heap[gb298]? = some (.cells #[.int .i64 t294, .int .i64 t295, .string t296] 25 (0, 0))) ∧ Aside0 (wc.heap[gb303]? = some (.cells #[.int .i64 t299, .int .i64 t300, .string t301] 25 (0, 0))) ∧ Aside0 (wc.heap[gb308]? = some (.cells #[.int .i64 t304, .int .i64 t305, .string t306] 25 (0, 0))) ∧ Aside0 (Below w.heap.size w wc))
                  case first =>
                    have H := HC58.out
                    clear HC58
                    by_cases c66 : t307 = 0
                    · rw [if_pos c66] at H
                      have c66b0 : (t307 == 0) = true := beq_iff_eq.mpr c66
                      have c66b1 : (t307 != 0) = false := bne_eq_false_iff_eq.mpr c66
                      clear c66
                      (first | rw [c66b0] | (simp only [i64_w, i32_w]; rw [c66b0]) | skip)
                      have H' := Aside0.mk H
                      clear H
                      have hnb67 := NB308_298.out
                      have hnc67 := NB298_308.out
                      have hnb68 := NB308_303.out
                      have hnc68 := NB303_308.out
                      have hcz69_0 : w62.cell? ⟨gb308, 0, none⟩ = some (.int .i64 0) := (blk_cell BK308.out 0).trans rfl
                      have hcz69_1 : w62.cell? ⟨gb308, 1, none⟩ = some (.int .i64 0) := (blk_cell BK308.out 1).trans rfl
                      have hcz69_2 : w62.cell? ⟨gb308, 2, none⟩ = some (.string (⟨#[]⟩ : ByteArray)) := (blk_cell BK308.out 2).trans rfl
                      have hfz69_0 := blk_frozen BK308.out 0
                      have hfz69_1 := blk_frozen BK308.out 1
                      have hfz69_2 := blk_frozen BK308.out 2
                      have hnb70 := NB303_298.out
                      have hnc70 := NB298_303.out
                      have hcz71_0 : w62.cell? ⟨gb303, 0, none⟩ = some (.int .i64 t299) := (blk_cell BK303.out 0).trans rfl
                      have hcz71_1 : w62.cell? ⟨gb303, 1, none⟩ = some (.int .i64 t300) := (blk_cell BK303.out 1).trans rfl
                      have hcz71_2 : w62.cell? ⟨gb303, 2, none⟩ = some (.string t301) := (blk_cell BK303.out 2).trans rfl
                      have hfz71_0 := blk_frozen BK303.out 0
                      have hfz71_1 := blk_frozen BK303.out 1
                      have hfz71_2 := blk_frozen BK303.out 2
                      go_wp2
                      go_meet
                      case rel => exact ⟨_, ((!(t304 == t299) || (!(t305 == t300) || (!(t306.toList == t301.toList))))), (by first | rfl | (simp; done) | (simp [*]; done)), H', ⟨by have := HK1.out; have := HJ2.out; have := HJ44.out; first | omega | exact Nat.le_refl _⟩, ⟨by (with_reducible repeat (first | apply Kd.R_alloc | apply Kd.R_drewN | apply Kd.R_drew)); exact Kd.R_mono (Kd.R_far (p := ⟨gb308, 2, none⟩) (Kd.R_far (p := ⟨gb308, 1, none⟩) (Kd.R_far (p := ⟨gb308, 0, none⟩) (Kd.R_mono HO_5.out (fun k_ hk => (⟨hk, hk.2⟩ : _ ∧ k_ ≠ gb308))) (fun _ hk => hk.2) (.int .i64 t304)) (fun _ hk => hk.2) (.int .i64 t305)) (fun _ hk => hk.2) (.string t306)) (fun _ hk => ⟨hk.1.1.1, ⟨hk.1.1.2, hk.1.2⟩⟩)⟩, ⟨by (with_reducible repeat (first | refine zN ?_ _ | refine zD ?_ | refine zA ?_ _)); refine blk_far ?_ NB298_308.out _; (with_reducible repeat (first | refine zN ?_ _ | refine zD ?_ | refine zA ?_ _)); refine blk_far ?_ NB298_308.out _; (with_reducible repeat (first | refine zN ?_ _ | refine zD ?_ | refine zA ?_ _)); refine blk_far ?_ NB298_308.out _; (with_reducible repeat (first | refine zN ?_ _ | refine zD ?_ | refine zA ?_ _)); exact BK298.out⟩, ⟨by (with_reducible repeat (first | refine zN ?_ _ | refine zD ?_ | refine zA ?_ _)); refine blk_far ?_ NB303_308.out _; (with_reducible repeat (first | refine zN ?_ _ | refine zD ?_ | refine zA ?_ _)); refine blk_far ?_ NB303_308.out _; (with_reducible repeat (first | refine zN ?_ _ | refine zD ?_ | refine zA ?_ _)); refine blk_far ?_ NB303_308.out _; (with_reducible repeat (first | refine zN ?_ _ | refine zD ?_ | refine zA ?_ _)); exact BK303.out⟩, ⟨by (with_reducible repeat (first | refine zN ?_ _ | refine zD ?_ | refine zA ?_ _)); refine blk_put (cs := #[.int .i64 t304, .int .i64 t305, .string (⟨#[]⟩ : ByteArray)]) ?_ 2 _ rfl; (with_reducible repeat (first | refine zN ?_ _ | refine zD ?_ | refine zA ?_ _)); refine blk_put (cs := #[.int .i64 t304, .int .i64 0, .string (⟨#[]⟩ : ByteArray)]) ?_ 1 _ rfl; (with_reducible repeat (first | refine zN ?_ _ | refine zD ?_ | refine zA ?_ _)); refine blk_put (cs := #[.int .i64 0, .int .i64 0, .string (⟨#[]⟩ : ByteArray)]) ?_ 0 _ rfl; (with_reducible repeat (first | refine zN ?_ _ | refine zD ?_ | refine zA ?_ _)); exact BK308.out⟩, ⟨by repeat (first | (with_reducible first | exact HB.out | apply yA | apply yN | apply yD | refine below_set ?_ GE298.out | refine below_set ?_ GE303.out | refine below_set ?_ GE308.out) | exact HB.out)⟩⟩
                    · rw [if_neg c66] at H
                      have c66b0 : (t307 == 0) = false := beq_eq_false_iff_ne.mpr c66
                      have c66b1 : (t307 != 0) = true := bne_iff_ne.mpr c66
                      (first | rw [c66b0] | (simp only [i64_w, i32_w]; rw [c66b0]) | skip)
                      have H' := Aside0.mk H
                      clear H
                      go_wp2
                      go_meet
                      case rel => exact ⟨_, (true), (by first | rfl | (simp; done) | (simp [*]; done)), H', ⟨by have := HK1.out; have := HJ2.out; have := HJ44.out; first | omega | exact Nat.le_refl _⟩, ⟨by (with_reducible repeat (first | apply Kd.R_alloc | apply Kd.R_drewN | apply Kd.R_drew)); exact Kd.R_mono (Kd.R_far (p := ⟨gb308, 2, none⟩) (Kd.R_far (p := ⟨gb308, 1, none⟩) (Kd.R_far (p := ⟨gb308, 0, none⟩) (Kd.R_mono HO_5.out (fun k_ hk => (⟨hk, hk.2⟩ : _ ∧ k_ ≠ gb308))) (fun _ hk => hk.2) (.int .i64 t304)) (fun _ hk => hk.2) (.int .i64 t305)) (fun _ hk => hk.2) (.string t306)) (fun _ hk => ⟨hk.1.1.1, ⟨hk.1.1.2, hk.1.2⟩⟩)⟩, ⟨by (with_reducible repeat (first | refine zN ?_ _ | refine zD ?_ | refine zA ?_ _)); refine blk_far ?_ NB298_308.out _; (with_reducible repeat (first | refine zN ?_ _ | refine zD ?_ | refine zA ?_ _)); refine blk_far ?_ NB298_308.out _; (with_reducible repeat (first | refine zN ?_ _ | refine zD ?_ | refine zA ?_ _)); refine blk_far ?_ NB298_308.out _; (with_reducible repeat (first | refine zN ?_ _ | refine zD ?_ | refine zA ?_ _)); exact BK298.out⟩, ⟨by (with_reducible repeat (first | refine zN ?_ _ | refine zD ?_ | refine zA ?_ _)); refine blk_far ?_ NB303_308.out _; (with_reducible repeat (first | refine zN ?_ _ | refine zD ?_ | refine zA ?_ _)); refine blk_far ?_ NB303_308.out _; (with_reducible repeat (first | refine zN ?_ _ | refine zD ?_ | refine zA ?_ _)); refine blk_far ?_ NB303_308.out _; (with_reducible repeat (first | refine zN ?_ _ | refine zD ?_ | refine zA ?_ _)); exact BK303.out⟩, ⟨by (with_reducible repeat (first | refine zN ?_ _ | refine zD ?_ | refine zA ?_ _)); refine blk_put (cs := #[.int .i64 t304, .int .i64 t305, .string (⟨#[]⟩ : ByteArray)]) ?_ 2 _ rfl; (with_reducible repeat (first | refine zN ?_ _ | refine zD ?_ | refine zA ?_ _)); refine blk_put (cs := #[.int .i64 t304, .int .i64 0, .string (⟨#[]⟩ : ByteArray)]) ?_ 1 _ rfl; (with_reducible repeat (first | refine zN ?_ _ | refine zD ?_ | refine zA ?_ _)); refine blk_put (cs := #[.int .i64 0, .int .i64 0, .string (⟨#[]⟩ : ByteArray)]) ?_ 0 _ rfl; (with_reducible repeat (first | refine zN ?_ _ | refine zD ?_ | refine zA ?_ _)); exact BK308.out⟩, ⟨by repeat (first | (with_reducible first | exact HB.out | apply yA | apply yN | apply yD | refine below_set ?_ GE298.out | refine below_set ?_ GE303.out | refine below_set ?_ GE308.out) | exact HB.out)⟩⟩
                  case rest =>
                    clear HC58
                    try clear c1
                    try clear c2
                    try clear p2
                    try clear q2
                    try clear hx2
                    try clear c3
                    try clear c4
                    try clear c4b0
                    try clear c5
                    try clear c6
                    try clear p6
                    try clear c7
                    try clear c7b0
                    try clear c8
                    try clear c8b0
                    try clear c9
                    try clear c9b0
                    try clear c9b1
                    try clear c11
                    try clear c11b0
                    try clear c11b1
                    try clear c12
                    try clear c13
                    try clear c19
                    try clear c20
                    try clear c21
                    try clear c22
                    try clear c23
                    try clear p26
                    try clear q26
                    try clear hx26
                    try clear c27
                    try clear c27b0
                    try clear c27b1
                    try clear p27
                    try clear q27
                    try clear hx27
                    try clear c28
                    try clear c29
                    try clear c37
                    try clear c53
                    try clear c55
                    try clear c55b0
                    try clear c55b1
                    try clear c56
                    try clear c59
                    try clear c63
                    try clear c64
                    try clear p64
                    try clear c66
                    try clear c66b0
                    try clear c66b1
                    try clear c67
                    try clear c68
                    try clear c70
                    try clear hcz16_0
                    try clear hcz16_1
                    try clear hcz16_2
                    try clear hcz20_0
                    try clear hcz20_1
                    try clear hcz20_2
                    try clear hcz21_0
                    try clear hcz21_1
                    try clear hcz21_2
                    try clear hcz23_0
                    try clear hcz23_1
                    try clear hcz23_2
                    try clear hcz32_0
                    try clear hcz32_1
                    try clear hcz32_2
                    try clear hcz34_0
                    try clear hcz34_1
                    try clear hcz34_2
                    try clear hcz38_0
                    try clear hcz38_1
                    try clear hcz38_2
                    try clear hcz39_0
                    try clear hcz39_1
                    try clear hcz39_2
                    try clear hcz41_0
                    try clear hcz41_1
                    try clear hcz41_2
                    try clear hcz49_0
                    try clear hcz49_1
                    try clear hcz49_2
                    try clear hcz54_0
                    try clear hcz54_1
                    try clear hcz54_2
                    try clear hcz60_0
                    try clear hcz60_1
                    try clear hcz60_2
                    try clear hcz65_0
                    try clear hcz65_1
                    try clear hcz65_2
                    try clear hcz69_0
                    try clear hcz69_1
                    try clear hcz69_2
                    try clear hcz71_0
                    try clear hcz71_1
                    try clear hcz71_2
                    try clear hfz16_0
                    try clear hfz16_1
                    try clear hfz16_2
                    try clear hfz20_0
                    try clear hfz20_1
                    try clear hfz20_2
                    try clear hfz21_0
                    try clear hfz21_1
                    try clear hfz21_2
                    try clear hfz23_0
                    try clear hfz23_1
                    try clear hfz23_2
                    try clear hfz32_0
                    try clear hfz32_1
                    try clear hfz32_2
                    try clear hfz34_0
                    try clear hfz34_1
                    try clear hfz34_2
                    try clear hfz38_0
                    try clear hfz38_1
                    try clear hfz38_2
                    try clear hfz39_0
                    try clear hfz39_1
                    try clear hfz39_2
                    try clear hfz41_0
                    try clear hfz41_1
                    try clear hfz41_2
                    try clear hfz49_0
                    try clear hfz49_1
                    try clear hfz49_2
                    try clear hfz54_0
                    try clear hfz54_1
                    try clear hfz54_2
                    try clear hfz60_0
                    try clear hfz60_1
                    try clear hfz60_2
                    try clear hfz65_0
                    try clear hfz65_1
                    try clear hfz65_2
                    try clear hfz69_0
                    try clear hfz69_1
                    try clear hfz69_2
                    try clear hfz71_0
                    try clear hfz71_1
                    try clear hfz71_2
                    try clear hx267_0
                    try clear hx267_1
                    try clear hx267_2
                    try clear hx279_0
                    try clear hx279_1
                    try clear hx279_2
                    try clear p2
                    try clear p26
                    try clear p267
                    try clear p27
                    try clear p279
                    try clear p6
                    try clear q2
                    try clear q26
                    try clear q267
                    try clear q27
                    try clear q279
                    obtain ⟨kq, x92_57, rfl, HA, HJ57, HO_5, BK298, BK303, BK308, HB⟩ := hcut
                    cases kq with
                    | zero => exact absurd HA.out (by simp [tacticianlaw01_ValueMorgan.j3])
                    | succ kj57 =>
                      have H := HA.out
                      clear HA
                      simp only [tacticianlaw01_ValueMorgan.j3] at H
                      by_cases c72 : x92_57 = true
                      · subst c72
                        have H1 : (some false) = some r := by rw [if_pos rfl] at H; exact H
                        clear H
                        have H := H1
                        clear H1
                        exact absurd ((Option.some.inj H).trans hr_.out) (by decide)
                      · replace c72 := Bool.eq_false_iff.mpr c72
                        subst c72
                        have H1 : (if (x5_1.length : Int) > 0 then (if (x5_1.length : Int) = 0 then (none) else (tacticianlaw01_ValueMorgan.j4 kj57 x5_1 (Int.tmod (wrap64 (a1)) (x5_1.length : Int)) t294 t295 t296)) else (tacticianlaw01_ValueMorgan.j4 kj57 x5_1 0 t294 t295 t296)) = some r := by rw [if_neg (show ¬ (false = true) by decide)] at H; exact H
                        clear H
                        have H := H1
                        clear H1
                        have HC73 := Aside0.mk H
                        clear H
                        go_upto_if 95 with (fail)
                        go_cut [17] (fun v17 wc => ∃ (kq : Nat) (x17_72 : Int), v17 = .int .i64 x17_72 ∧ Aside0 (tacticianlaw01_ValueMorgan.j4 kq x5_1 x17_72 t294 t295 t296 = some r) ∧ Aside0 (kq ≤ kj57) ∧ Aside0 (Kd.R k25 25 wc w.heap.size (fun k_ => k_ ≠ gb298 ∧ k_ ≠ gb303 ∧ k_ ≠ gb308) (.slice Ao46 x5_1.length co46) x5_1) ∧ Aside0 (wc.heap[gb298]? = some (.cells #[.int .i64 t294, .int .i64 t295, .string t296] 25 (0, 0))) ∧ Aside0 (wc.heap[gb303]? = some (.cells #[.int .i64 t299, .int .i64 t300, .string t301] 25 (0, 0))) ∧ Aside0 (wc.heap[gb308]? = some (.cells #[.int .i64 t304, .int .i64 t305, .string t306] 25 (0, 0))) ∧ Aside0 (Below w.heap.size w wc))
                        case first =>
                          have H := HC73.out
                          clear HC73
                          by_cases c74 : (x5_1.length : Int) > 0
                          · rw [if_pos c74] at H
                            have c74b0 : decide (0 < (x5_1.length : Int)) = true := decide_eq_true c74
                            have c74b1 : decide (0 < x5_1.length) = true := decide_eq_true (by omega)
                            clear c74
                            (first | rw [c74b0] | (simp only [i64_w, i32_w]; rw [c74b0]) | skip)
                            by_cases c75 : (x5_1.length : Int) = 0
                            · rw [if_pos c75] at H
                              exact absurd H (by simp)
                            · rw [if_neg c75] at H
                              have c75b0 : ((x5_1.length : Int) == 0) = false := beq_eq_false_iff_ne.mpr c75
                              have c75b1 : ((x5_1.length : Int) != 0) = true := bne_iff_ne.mpr c75
                              have c75b2 : ¬ (x5_1 = []) := fun h_ => c75 (by rw [h_]; rfl)
                              have H' := Aside0.mk H
                              clear H
                              go_wp2
                              go_meet
                              case rel => exact ⟨_, (Int.tmod (wrap64 (a1)) (x5_1.length : Int)), (by first | rfl | (simp; done) | (simp [*]; done)), H', ⟨by have := HK1.out; have := HJ2.out; have := HJ44.out; have := HJ57.out; first | omega | exact Nat.le_refl _⟩, ⟨by (with_reducible repeat (first | apply Kd.R_alloc | apply Kd.R_drewN | apply Kd.R_drew)); exact HO_5.out⟩, ⟨by (with_reducible repeat (first | refine zN ?_ _ | refine zD ?_ | refine zA ?_ _)); exact BK298.out⟩, ⟨by (with_reducible repeat (first | refine zN ?_ _ | refine zD ?_ | refine zA ?_ _)); exact BK303.out⟩, ⟨by (with_reducible repeat (first | refine zN ?_ _ | refine zD ?_ | refine zA ?_ _)); exact BK308.out⟩, ⟨by repeat (first | (with_reducible first | exact HB.out | apply yA | apply yN | apply yD | refine below_set ?_ GE298.out | refine below_set ?_ GE303.out | refine below_set ?_ GE308.out) | exact HB.out)⟩⟩
                          · rw [if_neg c74] at H
                            have c74b0 : decide (0 < (x5_1.length : Int)) = false := decide_eq_false c74
                            have c74b1 : decide (0 < x5_1.length) = false := decide_eq_false (by omega)
                            have c74b1z : (0 < x5_1.length) = False := eq_false (by omega)
                            clear c74
                            (first | rw [c74b0] | (simp only [i64_w, i32_w]; rw [c74b0]) | skip)
                            have H' := Aside0.mk H
                            clear H
                            go_wp2
                            any_goals (try exact absurd (by assumption : 0 < x5_1.length) (of_eq_false c74b1z))
                            go_meet
                            case rel => exact ⟨_, (0), (by first | rfl | (simp; done) | (simp [*]; done)), H', ⟨by have := HK1.out; have := HJ2.out; have := HJ44.out; have := HJ57.out; first | omega | exact Nat.le_refl _⟩, ⟨by (with_reducible repeat (first | apply Kd.R_alloc | apply Kd.R_drewN | apply Kd.R_drew)); exact HO_5.out⟩, ⟨by (with_reducible repeat (first | refine zN ?_ _ | refine zD ?_ | refine zA ?_ _)); exact BK298.out⟩, ⟨by (with_reducible repeat (first | refine zN ?_ _ | refine zD ?_ | refine zA ?_ _)); exact BK303.out⟩, ⟨by (with_reducible repeat (first | refine zN ?_ _ | refine zD ?_ | refine zA ?_ _)); exact BK308.out⟩, ⟨by repeat (first | (with_reducible first | exact HB.out | apply yA | apply yN | apply yD | refine below_set ?_ GE298.out | refine below_set ?_ GE303.out | refine below_set ?_ GE308.out) | exact HB.out)⟩⟩
                        case rest =>
                          clear HC73
                          try clear c1
                          try clear c2
                          try clear p2
                          try clear q2
                          try clear hx2
                          try clear c3
                          try clear c4
                          try clear c4b0
                          try clear c5
                          try clear c6
                          try clear p6
                          try clear c7
                          try clear c7b0
                          try clear c8
                          try clear c8b0
                          try clear c9
                          try clear c9b0
                          try clear c9b1
                          try clear c11
                          try clear c11b0
                          try clear c11b1
                          try clear c12
                          try clear c13
                          try clear c19
                          try clear c20
                          try clear c21
                          try clear c22
                          try clear c23
                          try clear p26
                          try clear q26
                          try clear hx26
                          try clear c27
                          try clear c27b0
                          try clear c27b1
                          try clear p27
                          try clear q27
                          try clear hx27
                          try clear c28
                          try clear c29
                          try clear c37
                          try clear c53
                          try clear c55
                          try clear c55b0
                          try clear c55b1
                          try clear c56
                          try clear c59
                          try clear c63
                          try clear c64
                          try clear p64
                          try clear c66
                          try clear c66b0
                          try clear c66b1
                          try clear c67
                          try clear c68
                          try clear c70
                          try clear c72
                          try clear c74
                          try clear c74b0
                          try clear c74b1
                          try clear c75
                          try clear c75b0
                          try clear c75b1
                          try clear c75b2
                          try clear hcz16_0
                          try clear hcz16_1
                          try clear hcz16_2
                          try clear hcz20_0
                          try clear hcz20_1
                          try clear hcz20_2
                          try clear hcz21_0
                          try clear hcz21_1
                          try clear hcz21_2
                          try clear hcz23_0
                          try clear hcz23_1
                          try clear hcz23_2
                          try clear hcz32_0
                          try clear hcz32_1
                          try clear hcz32_2
                          try clear hcz34_0
                          try clear hcz34_1
                          try clear hcz34_2
                          try clear hcz38_0
                          try clear hcz38_1
                          try clear hcz38_2
                          try clear hcz39_0
                          try clear hcz39_1
                          try clear hcz39_2
                          try clear hcz41_0
                          try clear hcz41_1
                          try clear hcz41_2
                          try clear hcz49_0
                          try clear hcz49_1
                          try clear hcz49_2
                          try clear hcz54_0
                          try clear hcz54_1
                          try clear hcz54_2
                          try clear hcz60_0
                          try clear hcz60_1
                          try clear hcz60_2
                          try clear hcz65_0
                          try clear hcz65_1
                          try clear hcz65_2
                          try clear hcz69_0
                          try clear hcz69_1
                          try clear hcz69_2
                          try clear hcz71_0
                          try clear hcz71_1
                          try clear hcz71_2
                          try clear hfz16_0
                          try clear hfz16_1
                          try clear hfz16_2
                          try clear hfz20_0
                          try clear hfz20_1
                          try clear hfz20_2
                          try clear hfz21_0
                          try clear hfz21_1
                          try clear hfz21_2
                          try clear hfz23_0
                          try clear hfz23_1
                          try clear hfz23_2
                          try clear hfz32_0
                          try clear hfz32_1
                          try clear hfz32_2
                          try clear hfz34_0
                          try clear hfz34_1
                          try clear hfz34_2
                          try clear hfz38_0
                          try clear hfz38_1
                          try clear hfz38_2
                          try clear hfz39_0
                          try clear hfz39_1
                          try clear hfz39_2
                          try clear hfz41_0
                          try clear hfz41_1
                          try clear hfz41_2
                          try clear hfz49_0
                          try clear hfz49_1
                          try clear hfz49_2
                          try clear hfz54_0
                          try clear hfz54_1
                          try clear hfz54_2
                          try clear hfz60_0
                          try clear hfz60_1
                          try clear hfz60_2
                          try clear hfz65_0
                          try clear hfz65_1
                          try clear hfz65_2
                          try clear hfz69_0
                          try clear hfz69_1
                          try clear hfz69_2
                          try clear hfz71_0
                          try clear hfz71_1
                          try clear hfz71_2
                          try clear hx267_0
                          try clear hx267_1
                          try clear hx267_2
                          try clear hx279_0
                          try clear hx279_1
                          try clear hx279_2
                          try clear p2
                          try clear p26
                          try clear p267
                          try clear p27
                          try clear p279
                          try clear p6
                          try clear p64
                          try clear q2
                          try clear q26
                          try clear q267
                          try clear q27
                          try clear q279
                          obtain ⟨kq, x17_72, rfl, HA, HJ72, HO_5, BK298, BK303, BK308, HB⟩ := hcut
                          cases kq with
                          | zero => exact absurd HA.out (by simp [tacticianlaw01_ValueMorgan.j4])
                          | succ kj72 =>
                            have H := HA.out
                            clear HA
                            simp only [tacticianlaw01_ValueMorgan.j4] at H
                            obtain ⟨y309, hy309⟩ : ∃ y_ : List (S25), y_ = (([] : List (S25))) := ⟨_, rfl⟩
                            replace H : (if 0 ≤ x17_72 then (if x17_72 ≤ (x5_1.length : Int) then ((some (x5_1.drop (x17_72 : Int).toNat : List (S25))).bind fun y312 => (if y309.length + y312.length < 4398046511104 then ((some (y309 ++ y312 : List (S25))).bind fun y316 => (if y316.length + x5_1.length < 4398046511104 then ((some (y316 ++ x5_1 : List (S25))).bind fun y319 => ((value_And.f y319).bind fun bt322 => ((value_Or.f x5_1).bind fun bt327 => ((value_Or.f y319).bind fun bt332 => (if bt322.2.2.2 = 0 then (if (t294 == bt322.1 && (t295 == bt322.2.1 && (t296.toList == bt322.2.2.1.toList))) = true then (if bt327.2.2.2 = 0 then (if bt332.2.2.2 = 0 then (if (bt327.1 == bt332.1 && (bt327.2.1 == bt332.2.1 && (bt327.2.2.1.toList == bt332.2.2.1.toList))) = true then ((tacticianlaw01_awake.f).bind fun t337 => (some t337)) else (some false)) else (some false)) else (some false)) else (some false)) else (some false)))))) else (none))) else (none))) else (none)) else (none)) = some r := by first | (rw [hy309]; with_reducible exact H) | (have H2_ := (Option.bind_some _ _).symm.trans H; rw [hy309]; with_reducible exact H2_) | (have H2_ := (Option.bind_some _ _).symm.trans H; with_reducible exact H2_) | with_reducible exact H | (rw [hy309]; exact H) | exact H
                            have Ny309 := Aside0.mk hy309
                            clear hy309
                            by_cases c76 : 0 ≤ x17_72
                            · rw [if_pos c76] at H
                              have c76b0 := eq_true c76
                              have c76b1 : decide (0 ≤ x17_72) = true := decide_eq_true c76
                              clear c76
                              by_cases c77 : x17_72 ≤ (x5_1.length : Int)
                              · rw [if_pos c77] at H
                                have c77b0 := eq_true c77
                                have c77b1 : decide (x17_72 ≤ (x5_1.length : Int)) = true := decide_eq_true c77
                                clear c77
                                obtain ⟨y312, hy312⟩ : ∃ y_ : List (S25), y_ = (x5_1.drop (x17_72 : Int).toNat) := ⟨_, rfl⟩
                                replace H : (if y309.length + y312.length < 4398046511104 then ((some (y309 ++ y312 : List (S25))).bind fun y316 => (if y316.length + x5_1.length < 4398046511104 then ((some (y316 ++ x5_1 : List (S25))).bind fun y319 => ((value_And.f y319).bind fun bt322 => ((value_Or.f x5_1).bind fun bt327 => ((value_Or.f y319).bind fun bt332 => (if bt322.2.2.2 = 0 then (if (t294 == bt322.1 && (t295 == bt322.2.1 && (t296.toList == bt322.2.2.1.toList))) = true then (if bt327.2.2.2 = 0 then (if bt332.2.2.2 = 0 then (if (bt327.1 == bt332.1 && (bt327.2.1 == bt332.2.1 && (bt327.2.2.1.toList == bt332.2.2.1.toList))) = true then ((tacticianlaw01_awake.f).bind fun t337 => (some t337)) else (some false)) else (some false)) else (some false)) else (some false)) else (some false)))))) else (none))) else (none)) = some r := by first | (rw [hy312]; with_reducible exact H) | (have H2_ := (Option.bind_some _ _).symm.trans H; rw [hy312]; with_reducible exact H2_) | (have H2_ := (Option.bind_some _ _).symm.trans H; with_reducible exact H2_) | with_reducible exact H | (rw [hy312]; exact H) | exact H
                                have Ny312 := Aside0.mk hy312
                                clear hy312
                                by_cases c78 : y309.length + y312.length < 4398046511104
                                · rw [if_pos c78] at H
                                  have LMc78 := Aside0.mk c78
                                  clear c78
                                  obtain ⟨y316, hy316⟩ : ∃ y_ : List (S25), y_ = (y309 ++ y312) := ⟨_, rfl⟩
                                  replace H : (if y316.length + x5_1.length < 4398046511104 then ((some (y316 ++ x5_1 : List (S25))).bind fun y319 => ((value_And.f y319).bind fun bt322 => ((value_Or.f x5_1).bind fun bt327 => ((value_Or.f y319).bind fun bt332 => (if bt322.2.2.2 = 0 then (if (t294 == bt322.1 && (t295 == bt322.2.1 && (t296.toList == bt322.2.2.1.toList))) = true then (if bt327.2.2.2 = 0 then (if bt332.2.2.2 = 0 then (if (bt327.1 == bt332.1 && (bt327.2.1 == bt332.2.1 && (bt327.2.2.1.toList == bt332.2.2.1.toList))) = true then ((tacticianlaw01_awake.f).bind fun t337 => (some t337)) else (some false)) else (some false)) else (some false)) else (some false)) else (some false)))))) else (none)) = some r := by first | (rw [hy316]; with_reducible exact H) | (have H2_ := (Option.bind_some _ _).symm.trans H; rw [hy316]; with_reducible exact H2_) | (have H2_ := (Option.bind_some _ _).symm.trans H; with_reducible exact H2_) | with_reducible exact H | (rw [hy316]; exact H) | exact H
                                  have Ny316 := Aside0.mk hy316
                                  clear hy316
                                  by_cases c79 : y316.length + x5_1.length < 4398046511104
                                  · rw [if_pos c79] at H
                                    have LMc79 := Aside0.mk c79
                                    clear c79
                                    obtain ⟨y319, hy319⟩ : ∃ y_ : List (S25), y_ = (y316 ++ x5_1) := ⟨_, rfl⟩
                                    replace H : ((value_And.f y319).bind fun bt322 => ((value_Or.f x5_1).bind fun bt327 => ((value_Or.f y319).bind fun bt332 => (if bt322.2.2.2 = 0 then (if (t294 == bt322.1 && (t295 == bt322.2.1 && (t296.toList == bt322.2.2.1.toList))) = true then (if bt327.2.2.2 = 0 then (if bt332.2.2.2 = 0 then (if (bt327.1 == bt332.1 && (bt327.2.1 == bt332.2.1 && (bt327.2.2.1.toList == bt332.2.2.1.toList))) = true then ((tacticianlaw01_awake.f).bind fun t337 => (some t337)) else (some false)) else (some false)) else (some false)) else (some false)) else (some false))))) = some r := by first | (rw [hy319]; with_reducible exact H) | (have H2_ := (Option.bind_some _ _).symm.trans H; rw [hy319]; with_reducible exact H2_) | (have H2_ := (Option.bind_some _ _).symm.trans H; with_reducible exact H2_) | with_reducible exact H | (rw [hy319]; exact H) | exact H
                                    have Ny319 := Aside0.mk hy319
                                    clear hy319
                                    replace H := Option.bind_eq_some_iff.mp H
                                    obtain ⟨⟨t322, t323, t324, t325⟩, A800, H⟩ := H
                                    replace H : ((value_Or.f x5_1).bind fun bt327 => ((value_Or.f y319).bind fun bt332 => (if t325 = 0 then (if (t294 == t322 && (t295 == t323 && (t296.toList == t324.toList))) = true then (if bt327.2.2.2 = 0 then (if bt332.2.2.2 = 0 then (if (bt327.1 == bt332.1 && (bt327.2.1 == bt332.2.1 && (bt327.2.2.1.toList == bt332.2.2.1.toList))) = true then ((tacticianlaw01_awake.f).bind fun t337 => (some t337)) else (some false)) else (some false)) else (some false)) else (some false)) else (some false)))) = some r := H
                                    have A80 := Aside0.mk A800
                                    clear A800
                                    replace H := Option.bind_eq_some_iff.mp H
                                    obtain ⟨⟨t327, t328, t329, t330⟩, A810, H⟩ := H
                                    replace H : ((value_Or.f y319).bind fun bt332 => (if t325 = 0 then (if (t294 == t322 && (t295 == t323 && (t296.toList == t324.toList))) = true then (if t330 = 0 then (if bt332.2.2.2 = 0 then (if (t327 == bt332.1 && (t328 == bt332.2.1 && (t329.toList == bt332.2.2.1.toList))) = true then ((tacticianlaw01_awake.f).bind fun t337 => (some t337)) else (some false)) else (some false)) else (some false)) else (some false)) else (some false))) = some r := H
                                    have A81 := Aside0.mk A810
                                    clear A810
                                    replace H := Option.bind_eq_some_iff.mp H
                                    obtain ⟨⟨t332, t333, t334, t335⟩, A820, H⟩ := H
                                    replace H : (if t325 = 0 then (if (t294 == t322 && (t295 == t323 && (t296.toList == t324.toList))) = true then (if t330 = 0 then (if t335 = 0 then (if (t327 == t332 && (t328 == t333 && (t329.toList == t334.toList))) = true then ((tacticianlaw01_awake.f).bind fun t337 => (some t337)) else (some false)) else (some false)) else (some false)) else (some false)) else (some false)) = some r := H
                                    have A82 := Aside0.mk A820
                                    clear A820
                                    by_cases c83 : t325 = 0
                                    · rw [if_pos c83] at H
                                      have c83b0 : (t325 == 0) = true := beq_iff_eq.mpr c83
                                      have c83b1 : (t325 != 0) = false := bne_eq_false_iff_eq.mpr c83
                                      clear c83
                                      by_cases c84 : (t294 == t322 && (t295 == t323 && (t296.toList == t324.toList))) = true
                                      · rw [if_pos c84] at H
                                        have c84b0 : (t294 == t322 && (t295 == t323 && (t296.toList == t324.toList))) = true := c84
                                        (try (have c84b1 : decide (t294 = t322 && (t295 == t323 && (t296.toList == t324.toList))) = true := by simpa using c84))
                                        (try (have c84b2 : (t294 == t322 && (t295 == t323 && (t296.toList == t324.toList))) = true := by simpa using c84))
                                        clear c84
                                        by_cases c85 : t330 = 0
                                        · rw [if_pos c85] at H
                                          have c85b0 : (t330 == 0) = true := beq_iff_eq.mpr c85
                                          have c85b1 : (t330 != 0) = false := bne_eq_false_iff_eq.mpr c85
                                          clear c85
                                          by_cases c86 : t335 = 0
                                          · rw [if_pos c86] at H
                                            have c86b0 : (t335 == 0) = true := beq_iff_eq.mpr c86
                                            have c86b1 : (t335 != 0) = false := bne_eq_false_iff_eq.mpr c86
                                            clear c86
                                            by_cases c87 : (t327 == t332 && (t328 == t333 && (t329.toList == t334.toList))) = true
                                            · rw [if_pos c87] at H
                                              have c87b0 : (t327 == t332 && (t328 == t333 && (t329.toList == t334.toList))) = true := c87
                                              (try (have c87b1 : decide (t327 = t332 && (t328 == t333 && (t329.toList == t334.toList))) = true := by simpa using c87))
                                              (try (have c87b2 : (t327 == t332 && (t328 == t333 && (t329.toList == t334.toList))) = true := by simpa using c87))
                                              clear c87
                                              replace H := Option.bind_eq_some_iff.mp H
                                              obtain ⟨t337, A880, H⟩ := H
                                              replace H : (some t337) = some r := H
                                              have A88 := Aside0.mk A880
                                              clear A880
                                              obtain rfl := Option.some.inj H
                                              go_wp2_with (first | ((with_reducible refine gate_dst (N := 101) rfl ?_); refine Kd.R_lit k25 _ 25 ?hg (N := 101) ?hd (xs := ([] : List (S25))) (inner := []) (ok := fun _ => True) (okp := fun _ => True) ?hr ?hp (fun _ hk => hk) trivial (Below.refl _ _) (Nat.le_refl _) (by simp) ?_; (case hd => rfl); (case hg => rfl); (case hr => first | (go_simp; done) | (go_simp; rfl)); (case hp => exact (Reps.none _ _)); intro v310 w89 ho90 hb hg_ hnew_; clear hg_ hnew_; (first | rw [← Ny309.out] at ho90 | (simp only [Int.reduceToNat] at ho90; rw [← Ny309.out] at ho90)); have n0_ := Aside0.mk (Kd.R_elder' (by (with_reducible repeat (first | apply Kd.R_alloc | apply Kd.R_drewN | apply Kd.R_drew)); exact HO_5.out) (Kd.R_base ho90) hb); have n1_ := Aside0.mk (Kd.R_lower (Kd.R_newB (Kd.R_newB (Kd.R_newB (Kd.R_new' ho90 (Kd.R_lt (by (with_reducible repeat (first | apply Kd.R_alloc | apply Kd.R_drewN | apply Kd.R_drew)); exact HO_5.out))) (g := gb298) (o := .cells #[.int .i64 t294, .int .i64 t295, .string t296] 25 (0, 0)) (by (with_reducible repeat (first | refine zN ?_ _ | refine zD ?_ | refine zA ?_ _)); exact BK298.out)) (g := gb303) (o := .cells #[.int .i64 t299, .int .i64 t300, .string t301] 25 (0, 0)) (by (with_reducible repeat (first | refine zN ?_ _ | refine zD ?_ | refine zA ?_ _)); exact BK303.out)) (g := gb308) (o := .cells #[.int .i64 t304, .int .i64 t305, .string t306] 25 (0, 0)) (by (with_reducible repeat (first | refine zN ?_ _ | refine zD ?_ | refine zA ?_ _)); exact BK308.out)) (below_size (by repeat (first | (with_reducible first | exact HB.out | apply yA | apply yN | apply yD | refine below_set ?_ GE298.out | refine below_set ?_ GE303.out | refine below_set ?_ GE308.out) | exact HB.out)))); have n2_ := Aside0.mk (blk_below (g := gb298) (o := .cells #[.int .i64 t294, .int .i64 t295, .string t296] 25 (0, 0)) (by (with_reducible repeat (first | refine zN ?_ _ | refine zD ?_ | refine zA ?_ _)); exact BK298.out) hb); have n3_ := Aside0.mk (blk_below (g := gb303) (o := .cells #[.int .i64 t299, .int .i64 t300, .string t301] 25 (0, 0)) (by (with_reducible repeat (first | refine zN ?_ _ | refine zD ?_ | refine zA ?_ _)); exact BK303.out) hb); have n4_ := Aside0.mk (blk_below (g := gb308) (o := .cells #[.int .i64 t304, .int .i64 t305, .string t306] 25 (0, 0)) (by (with_reducible repeat (first | refine zN ?_ _ | refine zD ?_ | refine zA ?_ _)); exact BK308.out) hb); have n5_ := Aside0.mk (below_step (by repeat (first | (with_reducible first | exact HB.out | apply yA | apply yN | apply yD | refine below_set ?_ GE298.out | refine below_set ?_ GE303.out | refine below_set ?_ GE308.out) | exact HB.out)) hb); clear HO_5; clear BK298; clear BK303; clear BK308; clear HB; have HO_5 := n0_; have HO311 := n1_; have BK298 := n2_; have BK303 := n3_; have BK308 := n4_; have HB := n5_; clear n0_ n1_ n2_ n3_ n4_ n5_; clear hb ho90; have q91 : (x17_72 : Int) ≤ ((x5_1.length : Int) : Int) := of_decide_eq_true (by first | (with_reducible assumption) | assumption); obtain ⟨i091, hi091, _, hsz91, _⟩ := info_parts info25; have hroom91 : x5_1.length ≤ co46 := (Kd.R_reads' HO_5.out).2.1; have hC91 : Kd.C k25 _ Ao46 x5_1.length x5_1 := (Kd.R_reads' HO_5.out).2.2; have q091 : (0 : Int) ≤ (x17_72 : Int) := of_decide_eq_true (by first | (with_reducible assumption) | assumption); have hcut91 := cut_from (P := Tryd.prog) 33 25 .i64 Tryd.underlying33 hi091 3 hsz91 Ao46 x5_1.length co46 x17_72 q091 q91; have hr91 := Kd.C_drop (m := (x17_72 : Int).toNat) (c := co46) hC91 (by omega) hroom91; obtain ⟨A91, hA91⟩ : ∃ A1, A1 = (if co46 = (x17_72 : Int).toNat then Ao46 else (Ao46 : Option Addr).map (·.add ((x17_72 : Int).toNat * 3))) := ⟨_, rfl⟩; obtain ⟨c91, hc91⟩ : ∃ c1, c1 = co46 - (x17_72 : Int).toNat := ⟨_, rfl⟩; have hy91 : y312.length = x5_1.length - (x17_72 : Int).toNat := (by rw [Ny312.out, List.length_drop] <;> omega); rw [show (x5_1).drop (x17_72 : Int).toNat = y312 from Ny312.out.symm] at hr91; replace hr91 : Kd.C k25 _ A91 y312.length y312 := (by rw [hA91]; exact hr91); rw [← hy91, ← hA91, ← hc91] at hcut91; have HR315 := Aside0.mk hr91; have HC315 := Aside0.mk (show y312.length ≤ c91 from by rw [hy91, hc91]; exact Nat.sub_le_sub_right hroom91 _); clear hr91 hC91 hroom91 hi091 hsz91 hc91; have KY91 := Aside0.mk hy91; have KA91 := Aside0.mk hA91; clear hy91 hA91; have KL91 := Aside0.mk (show (x17_72 : Int).toNat ≤ x5_1.length from by omega); replace q91 := eq_true q91) | ((with_reducible refine gate_builtin (b := .append) (xs := #[.tmp 101, .tmp 104]) rfl ?_); at_builtin; refine Kd.R_append_rows k25 (w0 := w) w.heap.size rfl (.tmp 101) (.tmp 104) 33 25 (.agg #[(.int .i64 0), (.int .i64 0), (.string ⟨#[]⟩)]) 32 rfl Tryd.underlying33 info25 rfl (by decide) (by omega) v310 y309 y312 _ _ _ (fun k_ => some k_ ≠ (.slice Ao46 x5_1.length co46 : Value).ownBlock ∧ k_ ≠ gb298 ∧ k_ ≠ gb303 ∧ k_ ≠ gb308) (fun _ => False) rfl rfl ?aO ?aR (fun _ _ h => h) (fun _ h => h.elim) ?aF ?aB ?aS ?aL ?_; (case aR => repeat (first | exact (by repeat (first | (with_reducible exact HR315.out) | (with_reducible refine Kd.C_alloc ?_ _) | (with_reducible refine Kd.C_drewN ?_ _) | (with_reducible refine Kd.C_drew ?_) | exact HR315.out)) | (with_reducible refine Kd.C_alloc ?_ _) | (with_reducible refine Kd.C_drewN ?_ _) | (with_reducible refine Kd.C_drew ?_))); (case aB => exact (by repeat (first | (with_reducible first | exact HB.out | apply yA | apply yN | apply yD | refine below_set ?_ GE298.out | refine below_set ?_ GE303.out | refine below_set ?_ GE308.out) | exact HB.out))); (case aF => exact (fun k_ hk => ⟨Kd.fresh' (Kd.R_lt (by (with_reducible repeat (first | apply Kd.R_alloc | apply Kd.R_drewN | apply Kd.R_drew)); exact HO_5.out)) k_ hk, Kd.freshB (g := gb298) (o := .cells #[.int .i64 t294, .int .i64 t295, .string t296] 25 (0, 0)) (by (with_reducible repeat (first | refine zN ?_ _ | refine zD ?_ | refine zA ?_ _)); exact BK298.out) k_ hk, Kd.freshB (g := gb303) (o := .cells #[.int .i64 t299, .int .i64 t300, .string t301] 25 (0, 0)) (by (with_reducible repeat (first | refine zN ?_ _ | refine zD ?_ | refine zA ?_ _)); exact BK303.out) k_ hk, Kd.freshB (g := gb308) (o := .cells #[.int .i64 t304, .int .i64 t305, .string t306] 25 (0, 0)) (by (with_reducible repeat (first | refine zN ?_ _ | refine zD ?_ | refine zA ?_ _)); exact BK308.out) k_ hk⟩)); (case aO => exact (by (with_reducible repeat (first | apply Kd.R_alloc | apply Kd.R_drewN | apply Kd.R_drew)); exact Kd.R_mono HO311.out (fun _ hk => ⟨hk.1.1.1.2, ⟨hk.1.1.2, ⟨hk.1.2, hk.2⟩⟩⟩))); (case aS => exact (below_size (by repeat (first | (with_reducible first | exact HB.out | apply yA | apply yN | apply yD | refine below_set ?_ GE298.out | refine below_set ?_ GE303.out | refine below_set ?_ GE308.out) | exact HB.out)))); (case aL => have := LMc78.out; omega); intro v317 w92 ho hb hg hat; rw [← Ny316.out] at ho; have n0_ := Aside0.mk (Kd.R_after (ok := (fun k_ => k_ ≠ gb298 ∧ k_ ≠ gb303 ∧ k_ ≠ gb308)) (by (with_reducible repeat (first | apply Kd.R_alloc | apply Kd.R_drewN | apply Kd.R_drew)); exact HO_5.out) hg hat); have n1_ := Aside0.mk (blk_grown (g := gb298) (o := .cells #[.int .i64 t294, .int .i64 t295, .string t296] 25 (0, 0)) (by (with_reducible repeat (first | refine zN ?_ _ | refine zD ?_ | refine zA ?_ _)); exact BK298.out) hg (Kd.R_away HO311.out (fun _ hk => hk.1.1.2))); have n2_ := Aside0.mk (blk_grown (g := gb303) (o := .cells #[.int .i64 t299, .int .i64 t300, .string t301] 25 (0, 0)) (by (with_reducible repeat (first | refine zN ?_ _ | refine zD ?_ | refine zA ?_ _)); exact BK303.out) hg (Kd.R_away HO311.out (fun _ hk => hk.1.2))); have n3_ := Aside0.mk (blk_grown (g := gb308) (o := .cells #[.int .i64 t304, .int .i64 t305, .string t306] 25 (0, 0)) (by (with_reducible repeat (first | refine zN ?_ _ | refine zD ?_ | refine zA ?_ _)); exact BK308.out) hg (Kd.R_away HO311.out (fun _ hk => hk.2))); have n4_ := Aside0.mk (hb); have n5_ := Aside0.mk ((show Kd.C k25 w92 A91 y312.length y312 from by rw [Ny312.out, KA91.out]; exact Kd.C_drop (m := (x17_72 : Int).toNat) (c := co46) ((Kd.R_reads' (Kd.R_after (ok := (fun k_ => k_ ≠ gb298 ∧ k_ ≠ gb303 ∧ k_ ≠ gb308)) (by (with_reducible repeat (first | apply Kd.R_alloc | apply Kd.R_drewN | apply Kd.R_drew)); exact HO_5.out) hg hat)).2.2) KL91.out ((Kd.R_reads' (Kd.R_after (ok := (fun k_ => k_ ≠ gb298 ∧ k_ ≠ gb303 ∧ k_ ≠ gb308)) (by (with_reducible repeat (first | apply Kd.R_alloc | apply Kd.R_drewN | apply Kd.R_drew)); exact HO_5.out) hg hat)).2.1))); have n6_ := Aside0.mk (ho); clear HO_5; clear BK298; clear BK303; clear BK308; clear HB; clear HR315; clear HO311; have HO_5 := n0_; have BK298 := n1_; have BK303 := n2_; have BK308 := n3_; have HB := n4_; have HR315 := n5_; have HO318 := n6_; clear n0_ n1_ n2_ n3_ n4_ n5_ n6_; clear ho hb hg hat) | ((with_reducible refine gate_builtin (b := .append) (xs := #[.tmp 105, .tmp 106]) rfl ?_); at_builtin; refine Kd.R_append_rows k25 (w0 := w) w.heap.size rfl (.tmp 105) (.tmp 106) 33 25 (.agg #[(.int .i64 0), (.int .i64 0), (.string ⟨#[]⟩)]) 32 rfl Tryd.underlying33 info25 rfl (by decide) (by omega) v317 y316 x5_1 _ _ _ (fun k_ => some k_ ≠ (.slice Ao46 x5_1.length co46 : Value).ownBlock ∧ k_ ≠ gb298 ∧ k_ ≠ gb303 ∧ k_ ≠ gb308) (fun _ => False) rfl rfl ?aO ?aR (fun _ _ h => h) (fun _ h => h.elim) ?aF ?aB ?aS ?aL ?_; (case aR => repeat (first | exact (Kd.R_reads' HO_5.out).2.2 | (with_reducible refine Kd.C_alloc ?_ _) | (with_reducible refine Kd.C_drewN ?_ _) | (with_reducible refine Kd.C_drew ?_))); (case aB => exact (by repeat (first | (with_reducible first | exact HB.out | apply yA | apply yN | apply yD | refine below_set ?_ GE298.out | refine below_set ?_ GE303.out | refine below_set ?_ GE308.out) | exact HB.out))); (case aF => exact (fun k_ hk => ⟨Kd.fresh' (Kd.R_lt (by (with_reducible repeat (first | apply Kd.R_alloc | apply Kd.R_drewN | apply Kd.R_drew)); exact HO_5.out)) k_ hk, Kd.freshB (g := gb298) (o := .cells #[.int .i64 t294, .int .i64 t295, .string t296] 25 (0, 0)) (by (with_reducible repeat (first | refine zN ?_ _ | refine zD ?_ | refine zA ?_ _)); exact BK298.out) k_ hk, Kd.freshB (g := gb303) (o := .cells #[.int .i64 t299, .int .i64 t300, .string t301] 25 (0, 0)) (by (with_reducible repeat (first | refine zN ?_ _ | refine zD ?_ | refine zA ?_ _)); exact BK303.out) k_ hk, Kd.freshB (g := gb308) (o := .cells #[.int .i64 t304, .int .i64 t305, .string t306] 25 (0, 0)) (by (with_reducible repeat (first | refine zN ?_ _ | refine zD ?_ | refine zA ?_ _)); exact BK308.out) k_ hk⟩)); (case aO => exact (by (with_reducible repeat (first | apply Kd.R_alloc | apply Kd.R_drewN | apply Kd.R_drew)); exact HO318.out)); (case aS => exact (below_size (by repeat (first | (with_reducible first | exact HB.out | apply yA | apply yN | apply yD | refine below_set ?_ GE298.out | refine below_set ?_ GE303.out | refine below_set ?_ GE308.out) | exact HB.out)))); (case aL => have := LMc79.out; omega); intro v320 w93 ho hb hg hat; rw [← Ny319.out] at ho; have n0_ := Aside0.mk (Kd.R_after (ok := (fun k_ => k_ ≠ gb298 ∧ k_ ≠ gb303 ∧ k_ ≠ gb308)) (by (with_reducible repeat (first | apply Kd.R_alloc | apply Kd.R_drewN | apply Kd.R_drew)); exact HO_5.out) hg hat); have n1_ := Aside0.mk (blk_grown (g := gb298) (o := .cells #[.int .i64 t294, .int .i64 t295, .string t296] 25 (0, 0)) (by (with_reducible repeat (first | refine zN ?_ _ | refine zD ?_ | refine zA ?_ _)); exact BK298.out) hg (Kd.R_away HO318.out (fun _ hk => hk.2.1))); have n2_ := Aside0.mk (blk_grown (g := gb303) (o := .cells #[.int .i64 t299, .int .i64 t300, .string t301] 25 (0, 0)) (by (with_reducible repeat (first | refine zN ?_ _ | refine zD ?_ | refine zA ?_ _)); exact BK303.out) hg (Kd.R_away HO318.out (fun _ hk => hk.2.2.1))); have n3_ := Aside0.mk (blk_grown (g := gb308) (o := .cells #[.int .i64 t304, .int .i64 t305, .string t306] 25 (0, 0)) (by (with_reducible repeat (first | refine zN ?_ _ | refine zD ?_ | refine zA ?_ _)); exact BK308.out) hg (Kd.R_away HO318.out (fun _ hk => hk.2.2.2))); have n4_ := Aside0.mk (hb); have n5_ := Aside0.mk ((show Kd.C k25 w93 A91 y312.length y312 from by rw [Ny312.out, KA91.out]; exact Kd.C_drop (m := (x17_72 : Int).toNat) (c := co46) ((Kd.R_reads' (Kd.R_after (ok := (fun k_ => k_ ≠ gb298 ∧ k_ ≠ gb303 ∧ k_ ≠ gb308)) (by (with_reducible repeat (first | apply Kd.R_alloc | apply Kd.R_drewN | apply Kd.R_drew)); exact HO_5.out) hg hat)).2.2) KL91.out ((Kd.R_reads' (Kd.R_after (ok := (fun k_ => k_ ≠ gb298 ∧ k_ ≠ gb303 ∧ k_ ≠ gb308)) (by (with_reducible repeat (first | apply Kd.R_alloc | apply Kd.R_drewN | apply Kd.R_drew)); exact HO_5.out) hg hat)).2.1))); have n6_ := Aside0.mk (ho); clear HO_5; clear BK298; clear BK303; clear BK308; clear HB; clear HR315; clear HO318; have HO_5 := n0_; have BK298 := n1_; have BK303 := n2_; have BK308 := n3_; have HB := n4_; have HR315 := n5_; have HO321 := n6_; clear n0_ n1_ n2_ n3_ n4_ n5_ n6_; clear ho hb hg hat; obtain ⟨Ao94, co94, eo94⟩ := Kd.R_slice HO321.out; subst eo94) | ((with_reducible refine gate_callee (f := 22) rfl ?_); refine goesL_ (some 110) rfl rfl Tryd.func22 (by kernel_rfl) rfl #[.slice Ao94 y319.length co94] rfl (by (try simp only [List.map_toArray, List.map_cons, List.map_nil]); first | done | rfl | (simp only [List.length_drop, List.length_take]; rfl)) ?_; (with_reducible refine (value_And.calls _ _ y319 t322 t323 t324 t325 _ ?side1 ?side2 A80.out).mono ?_); (case side1 => repeat (first | exact (Kd.R_reads' HO321.out).2.2 | (with_reducible refine Kd.C_alloc ?_ _) | (with_reducible refine Kd.C_drewN ?_ _) | (with_reducible refine Kd.C_drew ?_))); (case side2 => exact (Kd.R_reads' HO321.out).2.1); rintro e w95 ⟨rfl, hb⟩; refine ⟨_, rfl, ?_⟩; have n0_ := Aside0.mk (Kd.R_below (by (with_reducible repeat (first | apply Kd.R_alloc | apply Kd.R_drewN | apply Kd.R_drew)); exact HO_5.out) hb); have n1_ := Aside0.mk (Kd.R_below (by (with_reducible repeat (first | apply Kd.R_alloc | apply Kd.R_drewN | apply Kd.R_drew)); exact HO321.out) hb); have n2_ := Aside0.mk (blk_below (g := gb298) (o := .cells #[.int .i64 t294, .int .i64 t295, .string t296] 25 (0, 0)) (by (with_reducible repeat (first | refine zN ?_ _ | refine zD ?_ | refine zA ?_ _)); exact BK298.out) hb); have n3_ := Aside0.mk (blk_below (g := gb303) (o := .cells #[.int .i64 t299, .int .i64 t300, .string t301] 25 (0, 0)) (by (with_reducible repeat (first | refine zN ?_ _ | refine zD ?_ | refine zA ?_ _)); exact BK303.out) hb); have n4_ := Aside0.mk (blk_below (g := gb308) (o := .cells #[.int .i64 t304, .int .i64 t305, .string t306] 25 (0, 0)) (by (with_reducible repeat (first | refine zN ?_ _ | refine zD ?_ | refine zA ?_ _)); exact BK308.out) hb); have n5_ := Aside0.mk (Kd.C_below (by repeat (first | (with_reducible exact HR315.out) | (with_reducible refine Kd.C_alloc ?_ _) | (with_reducible refine Kd.C_drewN ?_ _) | (with_reducible refine Kd.C_drew ?_) | exact HR315.out)) hb); have n6_ := Aside0.mk (below_step (by repeat (first | (with_reducible first | exact HB.out | apply yA | apply yN | apply yD | refine below_set ?_ GE298.out | refine below_set ?_ GE303.out | refine below_set ?_ GE308.out) | exact HB.out)) hb); clear HO_5; clear HO321; clear BK298; clear BK303; clear BK308; clear HR315; clear HB; have HO_5 := n0_; have HO321 := n1_; have BK298 := n2_; have BK303 := n3_; have BK308 := n4_; have HR315 := n5_; have HB := n6_; clear n0_ n1_ n2_ n3_ n4_ n5_ n6_; (try clear hb); (try clear hb2); (try clear hk); (try clear hi)) | ((with_reducible refine gate_dst (N := 19) rfl ?_); refine box_event ?hg (N := 19) ?hd (cs := #[.int .i64 0, .int .i64 0, .string (⟨#[]⟩ : ByteArray)]) (t := 25) ?hr ?_; (case hd => rfl); (case hg => rfl); (case hr => first | (go_simp; done) | (go_simp; rfl)); intro gb326 hg w96 hbox hb; have n0_ := Aside0.mk (Kd.R_below (Kd.R_elderB (by (with_reducible repeat (first | apply Kd.R_alloc | apply Kd.R_drewN | apply Kd.R_drew)); exact HO_5.out) gb326 (Nat.le_of_eq hg.symm)) hb); have n1_ := Aside0.mk (Kd.R_below (Kd.R_elderB (by (with_reducible repeat (first | apply Kd.R_alloc | apply Kd.R_drewN | apply Kd.R_drew)); exact HO321.out) gb326 (Nat.le_of_eq hg.symm)) hb); have n2_ := Aside0.mk (blk_below (g := gb298) (o := .cells #[.int .i64 t294, .int .i64 t295, .string t296] 25 (0, 0)) (by (with_reducible repeat (first | refine zN ?_ _ | refine zD ?_ | refine zA ?_ _)); exact BK298.out) hb); have n3_ := Aside0.mk (blk_below (g := gb303) (o := .cells #[.int .i64 t299, .int .i64 t300, .string t301] 25 (0, 0)) (by (with_reducible repeat (first | refine zN ?_ _ | refine zD ?_ | refine zA ?_ _)); exact BK303.out) hb); have n4_ := Aside0.mk (blk_below (g := gb308) (o := .cells #[.int .i64 t304, .int .i64 t305, .string t306] 25 (0, 0)) (by (with_reducible repeat (first | refine zN ?_ _ | refine zD ?_ | refine zA ?_ _)); exact BK308.out) hb); have n5_ := Aside0.mk (Kd.C_below (by repeat (first | (with_reducible exact HR315.out) | (with_reducible refine Kd.C_alloc ?_ _) | (with_reducible refine Kd.C_drewN ?_ _) | (with_reducible refine Kd.C_drew ?_) | exact HR315.out)) hb); have n6_ := Aside0.mk (below_step (by repeat (first | (with_reducible first | exact HB.out | apply yA | apply yN | apply yD | refine below_set ?_ GE298.out | refine below_set ?_ GE303.out | refine below_set ?_ GE308.out) | exact HB.out)) hb); have n7_ := Aside0.mk (hbox); have n8_ := Aside0.mk ((by rw [hg]; exact (below_size (by repeat (first | (with_reducible first | exact HB.out | apply yA | apply yN | apply yD | refine below_set ?_ GE298.out | refine below_set ?_ GE303.out | refine below_set ?_ GE308.out) | exact HB.out))) : w.heap.size ≤ gb326)); have n9_ := Aside0.mk ((by rw [hg]; exact (below_size (by repeat (first | (with_reducible first | exact HB.out | apply yA | apply yN | apply yD | refine below_set ?_ GE298.out | refine below_set ?_ GE303.out | refine below_set ?_ GE308.out) | exact HB.out))) : w.heap.size ≤ gb326)); have n10_ := Aside0.mk ((by rw [hg]; exact Nat.ne_of_lt (blk_lt (g := gb298) (o := .cells #[.int .i64 t294, .int .i64 t295, .string t296] 25 (0, 0)) (by (with_reducible repeat (first | refine zN ?_ _ | refine zD ?_ | refine zA ?_ _)); exact BK298.out)) : gb298 ≠ gb326)); have n11_ := Aside0.mk ((by rw [hg]; exact Nat.ne_of_gt (blk_lt (g := gb298) (o := .cells #[.int .i64 t294, .int .i64 t295, .string t296] 25 (0, 0)) (by (with_reducible repeat (first | refine zN ?_ _ | refine zD ?_ | refine zA ?_ _)); exact BK298.out)) : gb326 ≠ gb298)); have n12_ := Aside0.mk ((by rw [hg]; exact Nat.ne_of_lt (blk_lt (g := gb303) (o := .cells #[.int .i64 t299, .int .i64 t300, .string t301] 25 (0, 0)) (by (with_reducible repeat (first | refine zN ?_ _ | refine zD ?_ | refine zA ?_ _)); exact BK303.out)) : gb303 ≠ gb326)); have n13_ := Aside0.mk ((by rw [hg]; exact Nat.ne_of_gt (blk_lt (g := gb303) (o := .cells #[.int .i64 t299, .int .i64 t300, .string t301] 25 (0, 0)) (by (with_reducible repeat (first | refine zN ?_ _ | refine zD ?_ | refine zA ?_ _)); exact BK303.out)) : gb326 ≠ gb303)); have n14_ := Aside0.mk ((by rw [hg]; exact Nat.ne_of_lt (blk_lt (g := gb308) (o := .cells #[.int .i64 t304, .int .i64 t305, .string t306] 25 (0, 0)) (by (with_reducible repeat (first | refine zN ?_ _ | refine zD ?_ | refine zA ?_ _)); exact BK308.out)) : gb308 ≠ gb326)); have n15_ := Aside0.mk ((by rw [hg]; exact Nat.ne_of_gt (blk_lt (g := gb308) (o := .cells #[.int .i64 t304, .int .i64 t305, .string t306] 25 (0, 0)) (by (with_reducible repeat (first | refine zN ?_ _ | refine zD ?_ | refine zA ?_ _)); exact BK308.out)) : gb326 ≠ gb308)); clear HO_5; clear HO321; clear BK298; clear BK303; clear BK308; clear HR315; clear HB; have HO_5 := n0_; have HO321 := n1_; have BK298 := n2_; have BK303 := n3_; have BK308 := n4_; have HR315 := n5_; have HB := n6_; have BK326 := n7_; have GW326 := n8_; have GE326 := n9_; have NB298_326 := n10_; have NB326_298 := n11_; have NB303_326 := n12_; have NB326_303 := n13_; have NB308_326 := n14_; have NB326_308 := n15_; clear n0_ n1_ n2_ n3_ n4_ n5_ n6_ n7_ n8_ n9_ n10_ n11_ n12_ n13_ n14_ n15_; clear hb hbox hg; have hnb97 := NB326_298.out; have hnc97 := NB298_326.out; have hnb98 := NB326_303.out; have hnc98 := NB303_326.out; have hnb99 := NB326_308.out; have hnc99 := NB308_326.out; have hcz100_0 : w96.cell? ⟨gb326, 0, none⟩ = some (.int .i64 0) := (blk_cell BK326.out 0).trans rfl; have hcz100_1 : w96.cell? ⟨gb326, 1, none⟩ = some (.int .i64 0) := (blk_cell BK326.out 1).trans rfl; have hcz100_2 : w96.cell? ⟨gb326, 2, none⟩ = some (.string (⟨#[]⟩ : ByteArray)) := (blk_cell BK326.out 2).trans rfl; have hfz100_0 := blk_frozen BK326.out 0; have hfz100_1 := blk_frozen BK326.out 1; have hfz100_2 := blk_frozen BK326.out 2) | ((with_reducible refine gate_callee (f := 23) rfl ?_); refine goesL_ (some 115) rfl rfl Tryd.func23 (by kernel_rfl) rfl #[.slice Ao46 x5_1.length co46] rfl (by (try simp only [List.map_toArray, List.map_cons, List.map_nil]); first | done | rfl | (simp only [List.length_drop, List.length_take]; rfl)) ?_; (with_reducible refine (value_Or.calls _ _ x5_1 t327 t328 t329 t330 _ ?side1 ?side2 A81.out).mono ?_); (case side1 => refine (Kd.R_reads' (e := 25) (base := w.heap.size) (ok := fun k_ => (((k_ ≠ gb298 ∧ (k_ ≠ gb303 ∧ k_ ≠ gb308)) ∧ some k_ ≠ (.slice Ao94 y319.length co94 : Value).ownBlock) ∧ k_ ≠ gb326)) (n := x5_1.length) (c := co46) ?_).2.2; exact (by (with_reducible repeat (first | apply Kd.R_alloc | apply Kd.R_drewN | apply Kd.R_drew)); exact (Kd.R_mono (Kd.R_far (p := ⟨gb326, 2, none⟩) (Kd.R_far (p := ⟨gb326, 1, none⟩) (Kd.R_far (p := ⟨gb326, 0, none⟩) (Kd.R_mono HO_5.out (fun k_ hk => (⟨hk, hk.2⟩ : _ ∧ k_ ≠ gb326))) (fun _ hk => hk.2) (.int .i64 t322)) (fun _ hk => hk.2) (.int .i64 t323)) (fun _ hk => hk.2) (.string t324)) (fun _ h_ => h_.1)))); (case side2 => exact (Kd.R_reads' HO_5.out).2.1); rintro e w101 ⟨rfl, hb⟩; refine ⟨_, rfl, ?_⟩; have n0_ := Aside0.mk (Kd.R_below (by (with_reducible repeat (first | apply Kd.R_alloc | apply Kd.R_drewN | apply Kd.R_drew)); exact (Kd.R_mono (Kd.R_far (p := ⟨gb326, 2, none⟩) (Kd.R_far (p := ⟨gb326, 1, none⟩) (Kd.R_far (p := ⟨gb326, 0, none⟩) (Kd.R_mono HO_5.out (fun k_ hk => (⟨hk, hk.2⟩ : _ ∧ k_ ≠ gb326))) (fun _ hk => hk.2) (.int .i64 t322)) (fun _ hk => hk.2) (.int .i64 t323)) (fun _ hk => hk.2) (.string t324)) (fun _ h_ => h_.1))) hb); have n1_ := Aside0.mk (Kd.R_below (by (with_reducible repeat (first | apply Kd.R_alloc | apply Kd.R_drewN | apply Kd.R_drew)); exact (Kd.R_mono (Kd.R_far (p := ⟨gb326, 2, none⟩) (Kd.R_far (p := ⟨gb326, 1, none⟩) (Kd.R_far (p := ⟨gb326, 0, none⟩) (Kd.R_mono HO321.out (fun k_ hk => (⟨hk, hk.2⟩ : _ ∧ k_ ≠ gb326))) (fun _ hk => hk.2) (.int .i64 t322)) (fun _ hk => hk.2) (.int .i64 t323)) (fun _ hk => hk.2) (.string t324)) (fun _ h_ => h_.1))) hb); have n2_ := Aside0.mk (blk_below (g := gb298) (o := .cells #[.int .i64 t294, .int .i64 t295, .string t296] 25 (0, 0)) (by (with_reducible repeat (first | refine zN ?_ _ | refine zD ?_ | refine zA ?_ _)); refine blk_far ?_ NB298_326.out _; (with_reducible repeat (first | refine zN ?_ _ | refine zD ?_ | refine zA ?_ _)); refine blk_far ?_ NB298_326.out _; (with_reducible repeat (first | refine zN ?_ _ | refine zD ?_ | refine zA ?_ _)); refine blk_far ?_ NB298_326.out _; (with_reducible repeat (first | refine zN ?_ _ | refine zD ?_ | refine zA ?_ _)); exact BK298.out) hb); have n3_ := Aside0.mk (blk_below (g := gb303) (o := .cells #[.int .i64 t299, .int .i64 t300, .string t301] 25 (0, 0)) (by (with_reducible repeat (first | refine zN ?_ _ | refine zD ?_ | refine zA ?_ _)); refine blk_far ?_ NB303_326.out _; (with_reducible repeat (first | refine zN ?_ _ | refine zD ?_ | refine zA ?_ _)); refine blk_far ?_ NB303_326.out _; (with_reducible repeat (first | refine zN ?_ _ | refine zD ?_ | refine zA ?_ _)); refine blk_far ?_ NB303_326.out _; (with_reducible repeat (first | refine zN ?_ _ | refine zD ?_ | refine zA ?_ _)); exact BK303.out) hb); have n4_ := Aside0.mk (blk_below (g := gb308) (o := .cells #[.int .i64 t304, .int .i64 t305, .string t306] 25 (0, 0)) (by (with_reducible repeat (first | refine zN ?_ _ | refine zD ?_ | refine zA ?_ _)); refine blk_far ?_ NB308_326.out _; (with_reducible repeat (first | refine zN ?_ _ | refine zD ?_ | refine zA ?_ _)); refine blk_far ?_ NB308_326.out _; (with_reducible repeat (first | refine zN ?_ _ | refine zD ?_ | refine zA ?_ _)); refine blk_far ?_ NB308_326.out _; (with_reducible repeat (first | refine zN ?_ _ | refine zD ?_ | refine zA ?_ _)); exact BK308.out) hb); have n5_ := Aside0.mk (blk_below (g := gb326) (o := .cells #[.int .i64 t322, .int .i64 t323, .string t324] 25 (0, 0)) (by (with_reducible repeat (first | refine zN ?_ _ | refine zD ?_ | refine zA ?_ _)); refine blk_put (cs := #[.int .i64 t322, .int .i64 t323, .string (⟨#[]⟩ : ByteArray)]) ?_ 2 _ rfl; (with_reducible repeat (first | refine zN ?_ _ | refine zD ?_ | refine zA ?_ _)); refine blk_put (cs := #[.int .i64 t322, .int .i64 0, .string (⟨#[]⟩ : ByteArray)]) ?_ 1 _ rfl; (with_reducible repeat (first | refine zN ?_ _ | refine zD ?_ | refine zA ?_ _)); refine blk_put (cs := #[.int .i64 0, .int .i64 0, .string (⟨#[]⟩ : ByteArray)]) ?_ 0 _ rfl; (with_reducible repeat (first | refine zN ?_ _ | refine zD ?_ | refine zA ?_ _)); exact BK326.out) hb); have n6_ := Aside0.mk (below_step (by repeat (first | (with_reducible first | exact HB.out | apply yA | apply yN | apply yD | refine below_set ?_ GE298.out | refine below_set ?_ GE303.out | refine below_set ?_ GE308.out | refine below_set ?_ GE326.out) | exact HB.out)) hb); clear HO_5; clear HO321; clear BK298; clear BK303; clear BK308; clear BK326; clear HB; have HO_5 := n0_; have HO321 := n1_; have BK298 := n2_; have BK303 := n3_; have BK308 := n4_; have BK326 := n5_; have HB := n6_; clear n0_ n1_ n2_ n3_ n4_ n5_ n6_; (try clear hb); (try clear hb2); (try clear hk); (try clear hi)) | ((with_reducible refine gate_dst (N := 21) rfl ?_); refine box_event ?hg (N := 21) ?hd (cs := #[.int .i64 0, .int .i64 0, .string (⟨#[]⟩ : ByteArray)]) (t := 25) ?hr ?_; (case hd => rfl); (case hg => rfl); (case hr => first | (go_simp; done) | (go_simp; rfl)); intro gb331 hg w102 hbox hb; have n0_ := Aside0.mk (Kd.R_below (Kd.R_elderB (by (with_reducible repeat (first | apply Kd.R_alloc | apply Kd.R_drewN | apply Kd.R_drew)); exact HO_5.out) gb331 (Nat.le_of_eq hg.symm)) hb); have n1_ := Aside0.mk (Kd.R_below (Kd.R_elderB (by (with_reducible repeat (first | apply Kd.R_alloc | apply Kd.R_drewN | apply Kd.R_drew)); exact HO321.out) gb331 (Nat.le_of_eq hg.symm)) hb); have n2_ := Aside0.mk (blk_below (g := gb298) (o := .cells #[.int .i64 t294, .int .i64 t295, .string t296] 25 (0, 0)) (by (with_reducible repeat (first | refine zN ?_ _ | refine zD ?_ | refine zA ?_ _)); exact BK298.out) hb); have n3_ := Aside0.mk (blk_below (g := gb303) (o := .cells #[.int .i64 t299, .int .i64 t300, .string t301] 25 (0, 0)) (by (with_reducible repeat (first | refine zN ?_ _ | refine zD ?_ | refine zA ?_ _)); exact BK303.out) hb); have n4_ := Aside0.mk (blk_below (g := gb308) (o := .cells #[.int .i64 t304, .int .i64 t305, .string t306] 25 (0, 0)) (by (with_reducible repeat (first | refine zN ?_ _ | refine zD ?_ | refine zA ?_ _)); exact BK308.out) hb); have n5_ := Aside0.mk (blk_below (g := gb326) (o := .cells #[.int .i64 t322, .int .i64 t323, .string t324] 25 (0, 0)) (by (with_reducible repeat (first | refine zN ?_ _ | refine zD ?_ | refine zA ?_ _)); exact BK326.out) hb); have n6_ := Aside0.mk (below_step (by repeat (first | (with_reducible first | exact HB.out | apply yA | apply yN | apply yD | refine below_set ?_ GE298.out | refine below_set ?_ GE303.out | refine below_set ?_ GE308.out | refine below_set ?_ GE326.out) | exact HB.out)) hb); have n7_ := Aside0.mk (hbox); have n8_ := Aside0.mk ((by rw [hg]; exact (below_size (by repeat (first | (with_reducible first | exact HB.out | apply yA | apply yN | apply yD | refine below_set ?_ GE298.out | refine below_set ?_ GE303.out | refine below_set ?_ GE308.out | refine below_set ?_ GE326.out) | exact HB.out))) : w.heap.size ≤ gb331)); have n9_ := Aside0.mk ((by rw [hg]; exact (below_size (by repeat (first | (with_reducible first | exact HB.out | apply yA | apply yN | apply yD | refine below_set ?_ GE298.out | refine below_set ?_ GE303.out | refine below_set ?_ GE308.out | refine below_set ?_ GE326.out) | exact HB.out))) : w.heap.size ≤ gb331)); have n10_ := Aside0.mk ((by rw [hg]; exact Nat.ne_of_lt (blk_lt (g := gb298) (o := .cells #[.int .i64 t294, .int .i64 t295, .string t296] 25 (0, 0)) (by (with_reducible repeat (first | refine zN ?_ _ | refine zD ?_ | refine zA ?_ _)); exact BK298.out)) : gb298 ≠ gb331)); have n11_ := Aside0.mk ((by rw [hg]; exact Nat.ne_of_gt (blk_lt (g := gb298) (o := .cells #[.int .i64 t294, .int .i64 t295, .string t296] 25 (0, 0)) (by (with_reducible repeat (first | refine zN ?_ _ | refine zD ?_ | refine zA ?_ _)); exact BK298.out)) : gb331 ≠ gb298)); have n12_ := Aside0.mk ((by rw [hg]; exact Nat.ne_of_lt (blk_lt (g := gb303) (o := .cells #[.int .i64 t299, .int .i64 t300, .string t301] 25 (0, 0)) (by (with_reducible repeat (first | refine zN ?_ _ | refine zD ?_ | refine zA ?_ _)); exact BK303.out)) : gb303 ≠ gb331)); have n13_ := Aside0.mk ((by rw [hg]; exact Nat.ne_of_gt (blk_lt (g := gb303) (o := .cells #[.int .i64 t299, .int .i64 t300, .string t301] 25 (0, 0)) (by (with_reducible repeat (first | refine zN ?_ _ | refine zD ?_ | refine zA ?_ _)); exact BK303.out)) : gb331 ≠ gb303)); have n14_ := Aside0.mk ((by rw [hg]; exact Nat.ne_of_lt (blk_lt (g := gb308) (o := .cells #[.int .i64 t304, .int .i64 t305, .string t306] 25 (0, 0)) (by (with_reducible repeat (first | refine zN ?_ _ | refine zD ?_ | refine zA ?_ _)); exact BK308.out)) : gb308 ≠ gb331)); have n15_ := Aside0.mk ((by rw [hg]; exact Nat.ne_of_gt (blk_lt (g := gb308) (o := .cells #[.int .i64 t304, .int .i64 t305, .string t306] 25 (0, 0)) (by (with_reducible repeat (first | refine zN ?_ _ | refine zD ?_ | refine zA ?_ _)); exact BK308.out)) : gb331 ≠ gb308)); have n16_ := Aside0.mk ((by rw [hg]; exact Nat.ne_of_lt (blk_lt (g := gb326) (o := .cells #[.int .i64 t322, .int .i64 t323, .string t324] 25 (0, 0)) (by (with_reducible repeat (first | refine zN ?_ _ | refine zD ?_ | refine zA ?_ _)); exact BK326.out)) : gb326 ≠ gb331)); have n17_ := Aside0.mk ((by rw [hg]; exact Nat.ne_of_gt (blk_lt (g := gb326) (o := .cells #[.int .i64 t322, .int .i64 t323, .string t324] 25 (0, 0)) (by (with_reducible repeat (first | refine zN ?_ _ | refine zD ?_ | refine zA ?_ _)); exact BK326.out)) : gb331 ≠ gb326)); clear HO_5; clear HO321; clear BK298; clear BK303; clear BK308; clear BK326; clear HB; have HO_5 := n0_; have HO321 := n1_; have BK298 := n2_; have BK303 := n3_; have BK308 := n4_; have BK326 := n5_; have HB := n6_; have BK331 := n7_; have GW331 := n8_; have GE331 := n9_; have NB298_331 := n10_; have NB331_298 := n11_; have NB303_331 := n12_; have NB331_303 := n13_; have NB308_331 := n14_; have NB331_308 := n15_; have NB326_331 := n16_; have NB331_326 := n17_; clear n0_ n1_ n2_ n3_ n4_ n5_ n6_ n7_ n8_ n9_ n10_ n11_ n12_ n13_ n14_ n15_ n16_ n17_; clear hb hbox hg; have hnb103 := NB331_298.out; have hnc103 := NB298_331.out; have hnb104 := NB331_303.out; have hnc104 := NB303_331.out; have hnb105 := NB331_308.out; have hnc105 := NB308_331.out; have hnb106 := NB331_326.out; have hnc106 := NB326_331.out; have hcz107_0 : w102.cell? ⟨gb331, 0, none⟩ = some (.int .i64 0) := (blk_cell BK331.out 0).trans rfl; have hcz107_1 : w102.cell? ⟨gb331, 1, none⟩ = some (.int .i64 0) := (blk_cell BK331.out 1).trans rfl; have hcz107_2 : w102.cell? ⟨gb331, 2, none⟩ = some (.string (⟨#[]⟩ : ByteArray)) := (blk_cell BK331.out 2).trans rfl; have hfz107_0 := blk_frozen BK331.out 0; have hfz107_1 := blk_frozen BK331.out 1; have hfz107_2 := blk_frozen BK331.out 2) | ((with_reducible refine gate_callee (f := 23) rfl ?_); refine goesL_ (some 120) rfl rfl Tryd.func23 (by kernel_rfl) rfl #[.slice Ao94 y319.length co94] rfl (by (try simp only [List.map_toArray, List.map_cons, List.map_nil]); first | done | rfl | (simp only [List.length_drop, List.length_take]; rfl)) ?_; (with_reducible refine (value_Or.calls _ _ y319 t332 t333 t334 t335 _ ?side1 ?side2 A82.out).mono ?_); (case side1 => refine (Kd.R_reads' (e := 25) (base := w.heap.size) (ok := fun k_ => (((some k_ ≠ (.slice Ao46 x5_1.length co46 : Value).ownBlock ∧ (k_ ≠ gb298 ∧ (k_ ≠ gb303 ∧ k_ ≠ gb308))) ∧ k_ ≠ gb326) ∧ k_ ≠ gb331)) (n := y319.length) (c := co94) ?_).2.2; exact (by (with_reducible repeat (first | apply Kd.R_alloc | apply Kd.R_drewN | apply Kd.R_drew)); exact (Kd.R_mono (Kd.R_far (p := ⟨gb331, 2, none⟩) (Kd.R_far (p := ⟨gb331, 1, none⟩) (Kd.R_far (p := ⟨gb331, 0, none⟩) (Kd.R_mono HO321.out (fun k_ hk => (⟨hk, hk.2⟩ : _ ∧ k_ ≠ gb331))) (fun _ hk => hk.2) (.int .i64 t327)) (fun _ hk => hk.2) (.int .i64 t328)) (fun _ hk => hk.2) (.string t329)) (fun _ h_ => h_.1)))); (case side2 => exact (Kd.R_reads' HO321.out).2.1); rintro e w108 ⟨rfl, hb⟩; refine ⟨_, rfl, ?_⟩; have n0_ := Aside0.mk (Kd.R_below (by (with_reducible repeat (first | apply Kd.R_alloc | apply Kd.R_drewN | apply Kd.R_drew)); exact (Kd.R_mono (Kd.R_far (p := ⟨gb331, 2, none⟩) (Kd.R_far (p := ⟨gb331, 1, none⟩) (Kd.R_far (p := ⟨gb331, 0, none⟩) (Kd.R_mono HO_5.out (fun k_ hk => (⟨hk, hk.2⟩ : _ ∧ k_ ≠ gb331))) (fun _ hk => hk.2) (.int .i64 t327)) (fun _ hk => hk.2) (.int .i64 t328)) (fun _ hk => hk.2) (.string t329)) (fun _ h_ => h_.1))) hb); have n1_ := Aside0.mk (Kd.R_below (by (with_reducible repeat (first | apply Kd.R_alloc | apply Kd.R_drewN | apply Kd.R_drew)); exact (Kd.R_mono (Kd.R_far (p := ⟨gb331, 2, none⟩) (Kd.R_far (p := ⟨gb331, 1, none⟩) (Kd.R_far (p := ⟨gb331, 0, none⟩) (Kd.R_mono HO321.out (fun k_ hk => (⟨hk, hk.2⟩ : _ ∧ k_ ≠ gb331))) (fun _ hk => hk.2) (.int .i64 t327)) (fun _ hk => hk.2) (.int .i64 t328)) (fun _ hk => hk.2) (.string t329)) (fun _ h_ => h_.1))) hb); have n2_ := Aside0.mk (blk_below (g := gb298) (o := .cells #[.int .i64 t294, .int .i64 t295, .string t296] 25 (0, 0)) (by (with_reducible repeat (first | refine zN ?_ _ | refine zD ?_ | refine zA ?_ _)); refine blk_far ?_ NB298_331.out _; (with_reducible repeat (first | refine zN ?_ _ | refine zD ?_ | refine zA ?_ _)); refine blk_far ?_ NB298_331.out _; (with_reducible repeat (first | refine zN ?_ _ | refine zD ?_ | refine zA ?_ _)); refine blk_far ?_ NB298_331.out _; (with_reducible repeat (first | refine zN ?_ _ | refine zD ?_ | refine zA ?_ _)); exact BK298.out) hb); have n3_ := Aside0.mk (blk_below (g := gb303) (o := .cells #[.int .i64 t299, .int .i64 t300, .string t301] 25 (0, 0)) (by (with_reducible repeat (first | refine zN ?_ _ | refine zD ?_ | refine zA ?_ _)); refine blk_far ?_ NB303_331.out _; (with_reducible repeat (first | refine zN ?_ _ | refine zD ?_ | refine zA ?_ _)); refine blk_far ?_ NB303_331.out _; (with_reducible repeat (first | refine zN ?_ _ | refine zD ?_ | refine zA ?_ _)); refine blk_far ?_ NB303_331.out _; (with_reducible repeat (first | refine zN ?_ _ | refine zD ?_ | refine zA ?_ _)); exact BK303.out) hb); have n4_ := Aside0.mk (blk_below (g := gb308) (o := .cells #[.int .i64 t304, .int .i64 t305, .string t306] 25 (0, 0)) (by (with_reducible repeat (first | refine zN ?_ _ | refine zD ?_ | refine zA ?_ _)); refine blk_far ?_ NB308_331.out _; (with_reducible repeat (first | refine zN ?_ _ | refine zD ?_ | refine zA ?_ _)); refine blk_far ?_ NB308_331.out _; (with_reducible repeat (first | refine zN ?_ _ | refine zD ?_ | refine zA ?_ _)); refine blk_far ?_ NB308_331.out _; (with_reducible repeat (first | refine zN ?_ _ | refine zD ?_ | refine zA ?_ _)); exact BK308.out) hb); have n5_ := Aside0.mk (blk_below (g := gb326) (o := .cells #[.int .i64 t322, .int .i64 t323, .string t324] 25 (0, 0)) (by (with_reducible repeat (first | refine zN ?_ _ | refine zD ?_ | refine zA ?_ _)); refine blk_far ?_ NB326_331.out _; (with_reducible repeat (first | refine zN ?_ _ | refine zD ?_ | refine zA ?_ _)); refine blk_far ?_ NB326_331.out _; (with_reducible repeat (first | refine zN ?_ _ | refine zD ?_ | refine zA ?_ _)); refine blk_far ?_ NB326_331.out _; (with_reducible repeat (first | refine zN ?_ _ | refine zD ?_ | refine zA ?_ _)); exact BK326.out) hb); have n6_ := Aside0.mk (blk_below (g := gb331) (o := .cells #[.int .i64 t327, .int .i64 t328, .string t329] 25 (0, 0)) (by (with_reducible repeat (first | refine zN ?_ _ | refine zD ?_ | refine zA ?_ _)); refine blk_put (cs := #[.int .i64 t327, .int .i64 t328, .string (⟨#[]⟩ : ByteArray)]) ?_ 2 _ rfl; (with_reducible repeat (first | refine zN ?_ _ | refine zD ?_ | refine zA ?_ _)); refine blk_put (cs := #[.int .i64 t327, .int .i64 0, .string (⟨#[]⟩ : ByteArray)]) ?_ 1 _ rfl; (with_reducible repeat (first | refine zN ?_ _ | refine zD ?_ | refine zA ?_ _)); refine blk_put (cs := #[.int .i64 0, .int .i64 0, .string (⟨#[]⟩ : ByteArray)]) ?_ 0 _ rfl; (with_reducible repeat (first | refine zN ?_ _ | refine zD ?_ | refine zA ?_ _)); exact BK331.out) hb); have n7_ := Aside0.mk (below_step (by repeat (first | (with_reducible first | exact HB.out | apply yA | apply yN | apply yD | refine below_set ?_ GE298.out | refine below_set ?_ GE303.out | refine below_set ?_ GE308.out | refine below_set ?_ GE326.out | refine below_set ?_ GE331.out) | exact HB.out)) hb); clear HO_5; clear HO321; clear BK298; clear BK303; clear BK308; clear BK326; clear BK331; clear HB; have HO_5 := n0_; have HO321 := n1_; have BK298 := n2_; have BK303 := n3_; have BK308 := n4_; have BK326 := n5_; have BK331 := n6_; have HB := n7_; clear n0_ n1_ n2_ n3_ n4_ n5_ n6_ n7_; (try clear hb); (try clear hb2); (try clear hk); (try clear hi)) | ((with_reducible refine gate_dst (N := 23) rfl ?_); refine box_event ?hg (N := 23) ?hd (cs := #[.int .i64 0, .int .i64 0, .string (⟨#[]⟩ : ByteArray)]) (t := 25) ?hr ?_; (case hd => rfl); (case hg => rfl); (case hr => first | (go_simp; done) | (go_simp; rfl)); intro gb336 hg w109 hbox hb; have n0_ := Aside0.mk (Kd.R_below (Kd.R_elderB (by (with_reducible repeat (first | apply Kd.R_alloc | apply Kd.R_drewN | apply Kd.R_drew)); exact HO_5.out) gb336 (Nat.le_of_eq hg.symm)) hb); have n1_ := Aside0.mk (Kd.R_below (Kd.R_elderB (by (with_reducible repeat (first | apply Kd.R_alloc | apply Kd.R_drewN | apply Kd.R_drew)); exact HO321.out) gb336 (Nat.le_of_eq hg.symm)) hb); have n2_ := Aside0.mk (blk_below (g := gb298) (o := .cells #[.int .i64 t294, .int .i64 t295, .string t296] 25 (0, 0)) (by (with_reducible repeat (first | refine zN ?_ _ | refine zD ?_ | refine zA ?_ _)); exact BK298.out) hb); have n3_ := Aside0.mk (blk_below (g := gb303) (o := .cells #[.int .i64 t299, .int .i64 t300, .string t301] 25 (0, 0)) (by (with_reducible repeat (first | refine zN ?_ _ | refine zD ?_ | refine zA ?_ _)); exact BK303.out) hb); have n4_ := Aside0.mk (blk_below (g := gb308) (o := .cells #[.int .i64 t304, .int .i64 t305, .string t306] 25 (0, 0)) (by (with_reducible repeat (first | refine zN ?_ _ | refine zD ?_ | refine zA ?_ _)); exact BK308.out) hb); have n5_ := Aside0.mk (blk_below (g := gb326) (o := .cells #[.int .i64 t322, .int .i64 t323, .string t324] 25 (0, 0)) (by (with_reducible repeat (first | refine zN ?_ _ | refine zD ?_ | refine zA ?_ _)); exact BK326.out) hb); have n6_ := Aside0.mk (blk_below (g := gb331) (o := .cells #[.int .i64 t327, .int .i64 t328, .string t329] 25 (0, 0)) (by (with_reducible repeat (first | refine zN ?_ _ | refine zD ?_ | refine zA ?_ _)); exact BK331.out) hb); have n7_ := Aside0.mk (below_step (by repeat (first | (with_reducible first | exact HB.out | apply yA | apply yN | apply yD | refine below_set ?_ GE298.out | refine below_set ?_ GE303.out | refine below_set ?_ GE308.out | refine below_set ?_ GE326.out | refine below_set ?_ GE331.out) | exact HB.out)) hb); have n8_ := Aside0.mk (hbox); have n9_ := Aside0.mk ((by rw [hg]; exact (below_size (by repeat (first | (with_reducible first | exact HB.out | apply yA | apply yN | apply yD | refine below_set ?_ GE298.out | refine below_set ?_ GE303.out | refine below_set ?_ GE308.out | refine below_set ?_ GE326.out | refine below_set ?_ GE331.out) | exact HB.out))) : w.heap.size ≤ gb336)); have n10_ := Aside0.mk ((by rw [hg]; exact (below_size (by repeat (first | (with_reducible first | exact HB.out | apply yA | apply yN | apply yD | refine below_set ?_ GE298.out | refine below_set ?_ GE303.out | refine below_set ?_ GE308.out | refine below_set ?_ GE326.out | refine below_set ?_ GE331.out) | exact HB.out))) : w.heap.size ≤ gb336)); have n11_ := Aside0.mk ((by rw [hg]; exact Nat.ne_of_lt (blk_lt (g := gb298) (o := .cells #[.int .i64 t294, .int .i64 t295, .string t296] 25 (0, 0)) (by (with_reducible repeat (first | refine zN ?_ _ | refine zD ?_ | refine zA ?_ _)); exact BK298.out)) : gb298 ≠ gb336)); have n12_ := Aside0.mk ((by rw [hg]; exact Nat.ne_of_gt (blk_lt (g := gb298) (o := .cells #[.int .i64 t294, .int .i64 t295, .string t296] 25 (0, 0)) (by (with_reducible repeat (first | refine zN ?_ _ | refine zD ?_ | refine zA ?_ _)); exact BK298.out)) : gb336 ≠ gb298)); have n13_ := Aside0.mk ((by rw [hg]; exact Nat.ne_of_lt (blk_lt (g := gb303) (o := .cells #[.int .i64 t299, .int .i64 t300, .string t301] 25 (0, 0)) (by (with_reducible repeat (first | refine zN ?_ _ | refine zD ?_ | refine zA ?_ _)); exact BK303.out)) : gb303 ≠ gb336)); have n14_ := Aside0.mk ((by rw [hg]; exact Nat.ne_of_gt (blk_lt (g := gb303) (o := .cells #[.int .i64 t299, .int .i64 t300, .string t301] 25 (0, 0)) (by (with_reducible repeat (first | refine zN ?_ _ | refine zD ?_ | refine zA ?_ _)); exact BK303.out)) : gb336 ≠ gb303)); have n15_ := Aside0.mk ((by rw [hg]; exact Nat.ne_of_lt (blk_lt (g := gb308) (o := .cells #[.int .i64 t304, .int .i64 t305, .string t306] 25 (0, 0)) (by (with_reducible repeat (first | refine zN ?_ _ | refine zD ?_ | refine zA ?_ _)); exact BK308.out)) : gb308 ≠ gb336)); have n16_ := Aside0.mk ((by rw [hg]; exact Nat.ne_of_gt (blk_lt (g := gb308) (o := .cells #[.int .i64 t304, .int .i64 t305, .string t306] 25 (0, 0)) (by (with_reducible repeat (first | refine zN ?_ _ | refine zD ?_ | refine zA ?_ _)); exact BK308.out)) : gb336 ≠ gb308)); have n17_ := Aside0.mk ((by rw [hg]; exact Nat.ne_of_lt (blk_lt (g := gb326) (o := .cells #[.int .i64 t322, .int .i64 t323, .string t324] 25 (0, 0)) (by (with_reducible repeat (first | refine zN ?_ _ | refine zD ?_ | refine zA ?_ _)); exact BK326.out)) : gb326 ≠ gb336)); have n18_ := Aside0.mk ((by rw [hg]; exact Nat.ne_of_gt (blk_lt (g := gb326) (o := .cells #[.int .i64 t322, .int .i64 t323, .string t324] 25 (0, 0)) (by (with_reducible repeat (first | refine zN ?_ _ | refine zD ?_ | refine zA ?_ _)); exact BK326.out)) : gb336 ≠ gb326)); have n19_ := Aside0.mk ((by rw [hg]; exact Nat.ne_of_lt (blk_lt (g := gb331) (o := .cells #[.int .i64 t327, .int .i64 t328, .string t329] 25 (0, 0)) (by (with_reducible repeat (first | refine zN ?_ _ | refine zD ?_ | refine zA ?_ _)); exact BK331.out)) : gb331 ≠ gb336)); have n20_ := Aside0.mk ((by rw [hg]; exact Nat.ne_of_gt (blk_lt (g := gb331) (o := .cells #[.int .i64 t327, .int .i64 t328, .string t329] 25 (0, 0)) (by (with_reducible repeat (first | refine zN ?_ _ | refine zD ?_ | refine zA ?_ _)); exact BK331.out)) : gb336 ≠ gb331)); clear HO_5; clear HO321; clear BK298; clear BK303; clear BK308; clear BK326; clear BK331; clear HB; have HO_5 := n0_; have HO321 := n1_; have BK298 := n2_; have BK303 := n3_; have BK308 := n4_; have BK326 := n5_; have BK331 := n6_; have HB := n7_; have BK336 := n8_; have GW336 := n9_; have GE336 := n10_; have NB298_336 := n11_; have NB336_298 := n12_; have NB303_336 := n13_; have NB336_303 := n14_; have NB308_336 := n15_; have NB336_308 := n16_; have NB326_336 := n17_; have NB336_326 := n18_; have NB331_336 := n19_; have NB336_331 := n20_; clear n0_ n1_ n2_ n3_ n4_ n5_ n6_ n7_ n8_ n9_ n10_ n11_ n12_ n13_ n14_ n15_ n16_ n17_ n18_ n19_ n20_; clear hb hbox hg; have hnb110 := NB336_298.out; have hnc110 := NB298_336.out; have hnb111 := NB336_303.out; have hnc111 := NB303_336.out; have hnb112 := NB336_308.out; have hnc112 := NB308_336.out; have hnb113 := NB336_326.out; have hnc113 := NB326_336.out; have hnb114 := NB336_331.out; have hnc114 := NB331_336.out; have hcz115_0 : w109.cell? ⟨gb336, 0, none⟩ = some (.int .i64 0) := (blk_cell BK336.out 0).trans rfl; have hcz115_1 : w109.cell? ⟨gb336, 1, none⟩ = some (.int .i64 0) := (blk_cell BK336.out 1).trans rfl; have hcz115_2 : w109.cell? ⟨gb336, 2, none⟩ = some (.string (⟨#[]⟩ : ByteArray)) := (blk_cell BK336.out 2).trans rfl; have hfz115_0 := blk_frozen BK336.out 0; have hfz115_1 := blk_frozen BK336.out 1; have hfz115_2 := blk_frozen BK336.out 2; have hnb116 := NB298_303.out; have hnc116 := NB303_298.out; have hnb117 := NB298_308.out; have hnc117 := NB308_298.out; have hcz118_0 : w109.cell? ⟨gb298, 0, none⟩ = some (.int .i64 t294) := (blk_cell BK298.out 0).trans rfl; have hcz118_1 : w109.cell? ⟨gb298, 1, none⟩ = some (.int .i64 t295) := (blk_cell BK298.out 1).trans rfl; have hcz118_2 : w109.cell? ⟨gb298, 2, none⟩ = some (.string t296) := (blk_cell BK298.out 2).trans rfl; have hfz118_0 := blk_frozen BK298.out 0; have hfz118_1 := blk_frozen BK298.out 1; have hfz118_2 := blk_frozen BK298.out 2; have hcz119_0 : w109.cell? ⟨gb326, 0, none⟩ = some (.int .i64 t322) := (blk_cell BK326.out 0).trans rfl; have hcz119_1 : w109.cell? ⟨gb326, 1, none⟩ = some (.int .i64 t323) := (blk_cell BK326.out 1).trans rfl; have hcz119_2 : w109.cell? ⟨gb326, 2, none⟩ = some (.string t324) := (blk_cell BK326.out 2).trans rfl; have hfz119_0 := blk_frozen BK326.out 0; have hfz119_1 := blk_frozen BK326.out 1; have hfz119_2 := blk_frozen BK326.out 2; have hcz120_0 : w109.cell? ⟨gb331, 0, none⟩ = some (.int .i64 t327) := (blk_cell BK331.out 0).trans rfl; have hcz120_1 : w109.cell? ⟨gb331, 1, none⟩ = some (.int .i64 t328) := (blk_cell BK331.out 1).trans rfl; have hcz120_2 : w109.cell? ⟨gb331, 2, none⟩ = some (.string t329) := (blk_cell BK331.out 2).trans rfl; have hfz120_0 := blk_frozen BK331.out 0; have hfz120_1 := blk_frozen BK331.out 1; have hfz120_2 := blk_frozen BK331.out 2) | (go_at_call 8; (with_reducible refine (tacticianlaw01_awake.calls  t337 _ ?side1 A88.out).mono ?_); (case side1 => exact Laid.below HLD.out (by repeat (first | (with_reducible first | exact HB.out | apply yA | apply yN | apply yD | refine below_set ?_ GE298.out | refine below_set ?_ GE303.out | refine below_set ?_ GE308.out | refine below_set ?_ GE326.out | refine below_set ?_ GE331.out | refine below_set ?_ GE336.out) | exact HB.out))); rintro e w121 ⟨rfl, hb⟩; have n0_ := Aside0.mk (Kd.R_below (by (with_reducible repeat (first | apply Kd.R_alloc | apply Kd.R_drewN | apply Kd.R_drew)); exact (Kd.R_mono (Kd.R_far (p := ⟨gb336, 2, none⟩) (Kd.R_far (p := ⟨gb336, 1, none⟩) (Kd.R_far (p := ⟨gb336, 0, none⟩) (Kd.R_mono HO_5.out (fun k_ hk => (⟨hk, hk.2⟩ : _ ∧ k_ ≠ gb336))) (fun _ hk => hk.2) (.int .i64 t332)) (fun _ hk => hk.2) (.int .i64 t333)) (fun _ hk => hk.2) (.string t334)) (fun _ h_ => h_.1))) hb); have n1_ := Aside0.mk (Kd.R_below (by (with_reducible repeat (first | apply Kd.R_alloc | apply Kd.R_drewN | apply Kd.R_drew)); exact (Kd.R_mono (Kd.R_far (p := ⟨gb336, 2, none⟩) (Kd.R_far (p := ⟨gb336, 1, none⟩) (Kd.R_far (p := ⟨gb336, 0, none⟩) (Kd.R_mono HO321.out (fun k_ hk => (⟨hk, hk.2⟩ : _ ∧ k_ ≠ gb336))) (fun _ hk => hk.2) (.int .i64 t332)) (fun _ hk => hk.2) (.int .i64 t333)) (fun _ hk => hk.2) (.string t334)) (fun _ h_ => h_.1))) hb); have n2_ := Aside0.mk (blk_below (g := gb298) (o := .cells #[.int .i64 t294, .int .i64 t295, .string t296] 25 (0, 0)) (by (with_reducible repeat (first | refine zN ?_ _ | refine zD ?_ | refine zA ?_ _)); refine blk_far ?_ NB298_336.out _; (with_reducible repeat (first | refine zN ?_ _ | refine zD ?_ | refine zA ?_ _)); refine blk_far ?_ NB298_336.out _; (with_reducible repeat (first | refine zN ?_ _ | refine zD ?_ | refine zA ?_ _)); refine blk_far ?_ NB298_336.out _; (with_reducible repeat (first | refine zN ?_ _ | refine zD ?_ | refine zA ?_ _)); exact BK298.out) hb); have n3_ := Aside0.mk (blk_below (g := gb303) (o := .cells #[.int .i64 t299, .int .i64 t300, .string t301] 25 (0, 0)) (by (with_reducible repeat (first | refine zN ?_ _ | refine zD ?_ | refine zA ?_ _)); refine blk_far ?_ NB303_336.out _; (with_reducible repeat (first | refine zN ?_ _ | refine zD ?_ | refine zA ?_ _)); refine blk_far ?_ NB303_336.out _; (with_reducible repeat (first | refine zN ?_ _ | refine zD ?_ | refine zA ?_ _)); refine blk_far ?_ NB303_336.out _; (with_reducible repeat (first | refine zN ?_ _ | refine zD ?_ | refine zA ?_ _)); exact BK303.out) hb); have n4_ := Aside0.mk (blk_below (g := gb308) (o := .cells #[.int .i64 t304, .int .i64 t305, .string t306] 25 (0, 0)) (by (with_reducible repeat (first | refine zN ?_ _ | refine zD ?_ | refine zA ?_ _)); refine blk_far ?_ NB308_336.out _; (with_reducible repeat (first | refine zN ?_ _ | refine zD ?_ | refine zA ?_ _)); refine blk_far ?_ NB308_336.out _; (with_reducible repeat (first | refine zN ?_ _ | refine zD ?_ | refine zA ?_ _)); refine blk_far ?_ NB308_336.out _; (with_reducible repeat (first | refine zN ?_ _ | refine zD ?_ | refine zA ?_ _)); exact BK308.out) hb); have n5_ := Aside0.mk (blk_below (g := gb326) (o := .cells #[.int .i64 t322, .int .i64 t323, .string t324] 25 (0, 0)) (by (with_reducible repeat (first | refine zN ?_ _ | refine zD ?_ | refine zA ?_ _)); refine blk_far ?_ NB326_336.out _; (with_reducible repeat (first | refine zN ?_ _ | refine zD ?_ | refine zA ?_ _)); refine blk_far ?_ NB326_336.out _; (with_reducible repeat (first | refine zN ?_ _ | refine zD ?_ | refine zA ?_ _)); refine blk_far ?_ NB326_336.out _; (with_reducible repeat (first | refine zN ?_ _ | refine zD ?_ | refine zA ?_ _)); exact BK326.out) hb); have n6_ := Aside0.mk (blk_below (g := gb331) (o := .cells #[.int .i64 t327, .int .i64 t328, .string t329] 25 (0, 0)) (by (with_reducible repeat (first | refine zN ?_ _ | refine zD ?_ | refine zA ?_ _)); refine blk_far ?_ NB331_336.out _; (with_reducible repeat (first | refine zN ?_ _ | refine zD ?_ | refine zA ?_ _)); refine blk_far ?_ NB331_336.out _; (with_reducible repeat (first | refine zN ?_ _ | refine zD ?_ | refine zA ?_ _)); refine blk_far ?_ NB331_336.out _; (with_reducible repeat (first | refine zN ?_ _ | refine zD ?_ | refine zA ?_ _)); exact BK331.out) hb); have n7_ := Aside0.mk (blk_below (g := gb336) (o := .cells #[.int .i64 t332, .int .i64 t333, .string t334] 25 (0, 0)) (by (with_reducible repeat (first | refine zN ?_ _ | refine zD ?_ | refine zA ?_ _)); refine blk_put (cs := #[.int .i64 t332, .int .i64 t333, .string (⟨#[]⟩ : ByteArray)]) ?_ 2 _ rfl; (with_reducible repeat (first | refine zN ?_ _ | refine zD ?_ | refine zA ?_ _)); refine blk_put (cs := #[.int .i64 t332, .int .i64 0, .string (⟨#[]⟩ : ByteArray)]) ?_ 1 _ rfl; (with_reducible repeat (first | refine zN ?_ _ | refine zD ?_ | refine zA ?_ _)); refine blk_put (cs := #[.int .i64 0, .int .i64 0, .string (⟨#[]⟩ : ByteArray)]) ?_ 0 _ rfl; (with_reducible repeat (first | refine zN ?_ _ | refine zD ?_ | refine zA ?_ _)); exact BK336.out) hb); have n8_ := Aside0.mk (below_step (by repeat (first | (with_reducible first | exact HB.out | apply yA | apply yN | apply yD | refine below_set ?_ GE298.out | refine below_set ?_ GE303.out | refine below_set ?_ GE308.out | refine below_set ?_ GE326.out | refine below_set ?_ GE331.out | refine below_set ?_ GE336.out) | exact HB.out)) hb); clear HO_5; clear HO321; clear BK298; clear BK303; clear BK308; clear BK326; clear BK331; clear BK336; clear HB; have HO_5 := n0_; have HO321 := n1_; have BK298 := n2_; have BK303 := n3_; have BK308 := n4_; have BK326 := n5_; have BK331 := n6_; have BK336 := n7_; have HB := n8_; clear n0_ n1_ n2_ n3_ n4_ n5_ n6_ n7_ n8_; (try clear hb); (try clear hb2); (try clear hk); (try clear hi)))
                                              go_ret
                                              exact ⟨by first | rfl | (simp [errW_none, errW_some] <;> rfl) | (simp [*, errW_none, errW_some] <;> rfl), by repeat (first | (with_reducible first | exact HB.out | apply yA | apply yN | apply yD | refine below_set ?_ GE298.out | refine below_set ?_ GE303.out | refine below_set ?_ GE308.out | refine below_set ?_ GE326.out | refine below_set ?_ GE331.out | refine below_set ?_ GE336.out) | exact HB.out)⟩
                                            · rw [if_neg c87] at H
                                              have c87b0 : (t327 == t332 && (t328 == t333 && (t329.toList == t334.toList))) = false := by simpa using c87
                                              (try (have c87b1 : decide (t327 = t332 && (t328 == t333 && (t329.toList == t334.toList))) = false := by simpa using c87))
                                              (try (have c87b2 : (t327 == t332 && (t328 == t333 && (t329.toList == t334.toList))) = false := by simpa using c87))
                                              (try (have c87b3 : ¬ (t327 = t332 && (t328 == t333 && (t329.toList == t334.toList))) := by simpa using c87))
                                              clear c87
                                              exact absurd ((Option.some.inj H).trans hr_.out) (by decide)
                                          · rw [if_neg c86] at H
                                            have c86b0 : (t335 == 0) = false := beq_eq_false_iff_ne.mpr c86
                                            have c86b1 : (t335 != 0) = true := bne_iff_ne.mpr c86
                                            exact absurd ((Option.some.inj H).trans hr_.out) (by decide)
                                        · rw [if_neg c85] at H
                                          have c85b0 : (t330 == 0) = false := beq_eq_false_iff_ne.mpr c85
                                          have c85b1 : (t330 != 0) = true := bne_iff_ne.mpr c85
                                          exact absurd ((Option.some.inj H).trans hr_.out) (by decide)
                                      · rw [if_neg c84] at H
                                        have c84b0 : (t294 == t322 && (t295 == t323 && (t296.toList == t324.toList))) = false := by simpa using c84
                                        (try (have c84b1 : decide (t294 = t322 && (t295 == t323 && (t296.toList == t324.toList))) = false := by simpa using c84))
                                        (try (have c84b2 : (t294 == t322 && (t295 == t323 && (t296.toList == t324.toList))) = false := by simpa using c84))
                                        (try (have c84b3 : ¬ (t294 = t322 && (t295 == t323 && (t296.toList == t324.toList))) := by simpa using c84))
                                        clear c84
                                        exact absurd ((Option.some.inj H).trans hr_.out) (by decide)
                                    · rw [if_neg c83] at H
                                      have c83b0 : (t325 == 0) = false := beq_eq_false_iff_ne.mpr c83
                                      have c83b1 : (t325 != 0) = true := bne_iff_ne.mpr c83
                                      exact absurd ((Option.some.inj H).trans hr_.out) (by decide)
                                  · rw [if_neg c79] at H
                                    exact absurd H (by simp)
                                · rw [if_neg c78] at H
                                  exact absurd H (by simp)
                              · rw [if_neg c77] at H
                                exact absurd H (by simp)
                            · rw [if_neg c76] at H
                              exact absurd H (by simp)

end Go.Proofs.YtinhpbmoiamepaaDoor.Q
