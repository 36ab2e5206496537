/- Each function reached is shown to return what the plain function beside it computes, wherever that is defined (written by a program of ours for this seat). -/
import Derived.Test.YtinhpbmoiamepaaGreatDoorQ0
import Derived.Test.YtinhpbmoiamepaaGreatDoorQ1
import Derived.Test.YtinhpbmoiamepaaGreatDoorQ5
import Derived.Test.YtinhpbmoiamepaaGreatDoorQ8
import Derived.Test.YtinhpbmoiamepaaGreatDoorQ13
import Derived.Test.YtinhpbmoiamepaaGreatDoorPlain
import Derived.Test.YtinhpbmoiamepaaGreatDoorPlainSort
namespace Go.Proofs.YtinhpbmoiamepaaGreatDoor.Q
open Go.RowKit Go.Proofs.YtinhpbmoiamepaaGreatDoorW.PrintWords Go.Proofs.YtinhpbmoiamepaaGreatDoorW.PrintLast Go.Proofs.YtinhpbmoiamepaaGreatDoorW.PrintMore
attribute [local go_sem] max2_int min2_int max_two min_two max_three min_three max_four min_four   -- for this text's walks alone
set_option linter.unusedVariables false
set_option linter.unusedSimpArgs false

attribute [local go_sem high] eqA25
/-! ### api_Value_1: function 62 -/
section
open Go.Sort
set_option maxHeartbeats 1000000 in
theorem onceEq.calls (gb : Nat) (x y : V) (W : World) (hc : W.cell? ⟨gb, 0, none⟩ = some (.func (.func 41) #[] #[])) :
    Calls Tryz.prog 62 (#[.agg #[.int .i64 x.f0, .int .i64 x.f1, .string x.f2], .agg #[.int .i64 y.f0, .int .i64 y.f1, .string y.f2]] ++ #[.pointer (some ⟨gb, 0, none⟩)]) W fun e w' => e = .returned (.bool (decide (x = y))) ∧ BelowD W.heap.size W w' := by
  have hu25 := Tryz.underlying25
  have eg : ∀ args w, (callFunc 41 args).run Tryz.prog w = .ok (.enter 41 args) w := enters_of Tryz.func41 (by kernel_rfl) rfl
  have HC := Aside0.mk (fun W => value_Order.grows 4 x.f0 x.f1 x.f2 y.f0 y.f1 y.f2 (cfV x y) W (by rw [value_Order.at]; rfl))
  have HE : Aside0 ((cfV x y == 0) = decide (x = y)) := ⟨by
    by_cases h : x = y
    · rw [decide_eq_true h, h, cfV_tc.refl]; rfl
    · rw [decide_eq_false h]
      have : cfV x y ≠ 0 := fun e => h (cfV_tc.same x y e)
      simpa using this⟩
  rw [← HE.out]
  clear HE
  generalize cfV x y = r at HC ⊢
  have hbk := World.block_lt_of_cell? W _ hc
  have c2 : ∀ o o', ((W.alloc o).alloc o').cell? ⟨gb, 0, none⟩ = some (.func (.func 41) #[] #[]) := fun o o' => Lib.cell?_alloc_some _ (Lib.cell?_alloc_some _ hc)
  clear hc hbk
  go_enter Tryz.func62, Tryz.ntmps62
  go_wp2_with (go_at_fn 41; refine (HC.out _).mono ?_; rintro e w' ⟨rfl, hb⟩)
  go_ret
  exact ⟨rfl, belowD_step (dA (dA (BelowD.refl _ _) _) _) hb⟩
end


/-! ### api_Value_42: function 42 -/
section
open Go.Sort
theorem box_order {w w2 : World} {f : Value} {t B : Nat} (hb : Below B (w.alloc (.cells #[f] t (0, 0))) w2) (hB : w.heap.size < B) : w2.cell? ⟨w.heap.size, 0, none⟩ = some f := by
  have h1 : w2.heap[w.heap.size]? = some (.cells #[f] t (0, 0)) := (hb.block _ hB).trans (blk_new w _)
  exact blk_cell h1 0
theorem box_kept {w2 w3 W : World} {g : Nat} {f v3 : Value} {xs : List V} {ok : Nat → Prop} (h : w2.cell? ⟨g, 0, none⟩ = some f) (hb : Below (g + 1) w2 w3) (hv : Kd.R k25 25 w3 (g + 1) ok v3 xs) (hk : ∀ k, k < w3.heap.size → some k ≠ v3.ownBlock → W.heap[k]? = w3.heap[k]?) : W.cell? ⟨g, 0, none⟩ = some f := by
  have hg : g < w2.heap.size := World.block_lt_of_cell? w2 _ h
  have h1 : W.heap[g]? = w2.heap[g]? := (hk g (Nat.lt_of_lt_of_le hg hb.size) (fun e => by
    rcases Kd.R_base2 hv with h0 | ⟨k, hk1, hk2⟩
    · rw [h0] at e; cases e
    · rw [hk1] at e; injection e with e; omega)).trans (hb.block g (Nat.lt_succ_self _))
  rw [← h]
  unfold World.cell?
  rw [h1]
set_option maxHeartbeats 1000000 in
theorem onceFV.calls (A0 : Option Addr) (c0 : Nat) (l0 : List V) (w : World) (hr0 : Kd.C k25 w A0 l0.length l0) (hlen : l0.length ≤ 1000000) :
    Calls Tryz.prog 42 #[.slice A0 l0.length c0, .func (.func 41) #[] #[]] w fun e w' => ∃ v0_ : Value, e = .returned v0_ ∧ Kd.R k25 25 w' w.heap.size (fun _ => True) v0_ (onceV (sortV l0)) ∧ Below w.heap.size w w' := by
  have eg : ∀ args w, (callFunc 62 args).run Tryz.prog w = .ok (.enter 62 args) w := enters_of Tryz.func62 (by kernel_rfl) rfl
  have HC := Aside0.mk (fun W (hb : Below w.heap.size w W) => cloneV.calls A0 c0 l0 W (Kd.C_below hr0 hb) (by omega))
  have HS := Aside0.mk (fun v W base ok (h : Kd.R k25 25 W base ok v l0) => sortFuncV.calls v l0 W base ok h (by omega))
  have HLX : Aside0 ((sortV l0).length = l0.length ∧ l0.length ≤ 1000000) := ⟨sortV_length l0, hlen⟩
  have HEG := Aside0.mk eg
  clear hr0 hlen eg
  generalize hn : l0.length = n at HC HLX ⊢
  have HN := Aside0.mk hn
  clear hn
  go_enter Tryz.func42, Tryz.ntmps42
  go_wp2_with (first
    | (go_at_call 39; refine (HC.out _ (below_alloc (Below.refl _ _) _)).mono ?_; rintro e w2 ⟨v, rfl, hv, hb2⟩; have hbox := box_order hb2 (by rw [World.size_alloc]; omega); have HBX := Aside0.mk hbox; have HB2 := Aside0.mk (below_then (below_alloc (Below.refl _ _) _) (by rw [World.size_alloc]; omega) hb2); have HV := Aside0.mk (Kd.R_lower hv (show w.heap.size + 1 ≤ _ by rw [World.size_alloc]; omega)); clear hv hb2)
    | (go_at_call 40; refine (HS.out _ _ _ _ HV.out).mono ?_; rintro e w3 ⟨rfl, hv3, hb3⟩; have HV3 := Aside0.mk hv3; have HB3 := Aside0.mk (hb3 w.heap.size w (Nat.le_succ _) HB2.out HB2.out.size); have HB4 := Aside0.mk (hb3 (w.heap.size + 1) w2 (Nat.le_refl _) (Below.refl _ _) (World.block_lt_of_cell? w2 _ HBX.out)); clear hv3 hb3 hbox)
    | (go_at_call 61; refine (compVany.calls 62 #[.pointer (some ⟨w.heap.size, 0, none⟩)] HEG.out _ _ _ _ _ HV3.out (by have := HLX.out; omega) (fun x y W hk => onceEq.calls w.heap.size x y W (box_kept HBX.out HB4.out HV3.out hk))).mono ?_; rintro e w5 ⟨v5, rfl, hv5, hb5⟩; have HV5 := Aside0.mk hv5; have HB5 := Aside0.mk (hb5 w.heap.size w (Nat.le_succ _) HB3.out HB3.out.size); clear hv5 hb5))
  go_ret
  exact ⟨_, rfl, Kd.R_lower HV5.out (Nat.le_succ _), HB5.out⟩
end


/-! ### value_Distinct: function 21 -/
def value_Distinct.f (l0 : List V) : Option (List V × Int) := if listE l0 = 0 then some (onceV (sortV l0), 0) else some ([], listE l0)
set_option maxHeartbeats 1000000 in
theorem value_Distinct.calls (A0 : Option Addr) (c0 : Nat) (l0 : List V) (r1 : List V) (r2 : Int) (w : World) (hr0 : Kd.C k25 w A0 l0.length l0) (hc0 : l0.length ≤ c0) (h : value_Distinct.f l0 = some (r1, r2)) :
    Calls Tryz.prog 21 #[.slice A0 l0.length c0] w fun e w' => ∃ v0_ : Value, e = .returned (.tuple #[v0_, .int .i64 r2]) ∧ Kd.R k25 25 w' w.heap.size (fun _ => True) v0_ r1 ∧ Below w.heap.size w w' := by
  unfold value_Distinct.f at h
  have HR := Aside0.mk (fun W (hb : Below w.heap.size w W) => value_right.calls A0 c0 l0 (listE l0) W (Kd.C_below hr0 hb) hc0 rfl)
  by_cases hl : listE l0 = 0
  · rw [if_pos hl] at h
    simp only [Option.some.injEq, Prod.mk.injEq] at h
    obtain ⟨rfl, rfl⟩ := h
    have hlen : l0.length ≤ 20000 := by
      unfold listE at hl
      by_cases z : 20000 < l0.length
      · rw [if_pos z] at hl; cases hl
      · omega
    rw [hl] at HR
    have HC := Aside0.mk (fun W (hb : Below w.heap.size w W) => onceFV.calls A0 c0 l0 W (Kd.C_below hr0 hb) (by omega))
    clear hr0 hc0 hl hlen
    generalize l0.length = n at HR HC ⊢
    go_enter Tryz.func21, Tryz.ntmps21
    go_wp2_with (first
      | (go_at_call 38; refine (HR.out _ (Below.refl _ _)).mono ?_; rintro e w1 ⟨rfl, hb1⟩; have HB := Aside0.mk hb1; clear hb1)
      | (go_at_call 42; refine (HC.out _ HB.out).mono ?_; rintro e w2 ⟨v, rfl, hv, hb2⟩; have HV := Aside0.mk (Kd.R_lower hv HB.out.size); have HB2 := Aside0.mk (HB.out.trans (hb2.mono HB.out.size)); clear hv hb2))
    go_ret2
    exact ⟨_, rfl, HV.out, HB2.out⟩
  · rw [if_neg hl] at h
    simp only [Option.some.injEq, Prod.mk.injEq] at h
    obtain ⟨rfl, rfl⟩ := h
    have hl2 : (listE l0 != 0) = true := by simpa using hl
    clear hr0 hc0
    generalize listE l0 = x at *
    generalize l0.length = n at *
    clear hl
    go_enter Tryz.func21, Tryz.ntmps21
    go_wp2_with (go_at_call 38; refine (HR.out _ (Below.refl _ _)).mono ?_; rintro e w' ⟨rfl, hb'⟩)
    go_ret2
    exact ⟨_, rfl, Kd.R_nil _ _ _ _ _, hb'⟩

/-! ### tacticianref01_Same: function 22 -/
def tacticianref01_Same.l0 : Nat → List (S25) → List (S25) → Int → Option (Bool)
  | 0, _, _, _ => none
  | k + 1, x0, x1, x5 => if x5 < (x0.length : Int) then (if 0 ≤ x5 then (if x5 < (x1.length : Int) then (if (!(((rd_T25 x0 x5).f0) == ((rd_T25 x1 x5).f0)) || (!(((rd_T25 x0 x5).f1) == ((rd_T25 x1 x5).f1)) || (!((((rd_T25 x0 x5).f2).toList) == (((rd_T25 x1 x5).f2).toList))))) = true then (some false) else (tacticianref01_Same.l0 k x0 x1 (wrap64 (x5 + 1)))) else (none)) else (none)) else (some true)
def tacticianref01_Same.f (k : Nat) (l0 : List (S25)) (l1 : List (S25)) : Option (Bool) := if (l0.length : Int) = (l1.length : Int) then (tacticianref01_Same.l0 k l0 l1 0) else (some false)
theorem tacticianref01_Same.mono_l : ∀ k, (∀ y0 y1 y2, LeO (tacticianref01_Same.l0 k y0 y1 y2) (tacticianref01_Same.l0 (k + 1) y0 y1 y2))
  | 0 => fun _ _ _ r h => by simp [tacticianref01_Same.l0] at h
  | k + 1 => by
    have ih0 := tacticianref01_Same.mono_l k
    · intro y0 y1 y2
      unfold tacticianref01_Same.l0
      repeat' first
      | (with_reducible exact ih0 _ _ _)
      | (with_reducible exact LeO.refl _)
      | (with_reducible exact LeO.none _)
      | (with_reducible refine LeO.ite ?_ ?_)
      | (with_reducible refine LeO.bind ?_ (fun _ => ?_))
      | exact ih0 _ _ _
      | exact LeO.none _
      | refine LeO.ite ?_ ?_
      | refine LeO.bind ?_ (fun _ => ?_)
theorem tacticianref01_Same.mono : ∀ a0 a1 k, LeO (tacticianref01_Same.f k a0 a1) (tacticianref01_Same.f (k + 1) a0 a1) := by
  intro a0 a1 k
  have ih0 := tacticianref01_Same.mono_l k
  unfold tacticianref01_Same.f
  repeat' first
      | (with_reducible exact ih0 _ _ _)
      | (with_reducible exact LeO.refl _)
      | (with_reducible exact LeO.none _)
      | (with_reducible refine LeO.ite ?_ ?_)
      | (with_reducible refine LeO.bind ?_ (fun _ => ?_))
      | exact ih0 _ _ _
      | exact LeO.none _
      | refine LeO.ite ?_ ?_
      | refine LeO.bind ?_ (fun _ => ?_)
set_option maxHeartbeats 8000000 in
set_option maxRecDepth 100000 in
theorem tacticianref01_Same.calls (k : Nat) (A0 : Option Addr) (c0 : Nat) (l0 : List (S25)) (A1 : Option Addr) (c1 : Nat) (l1 : List (S25)) (r : Bool) (w : World) (hr0 : Kd.C k25 w A0 l0.length l0) (hc0 : l0.length ≤ c0) (hr1 : Kd.C k25 w A1 l1.length l1) (hc1 : l1.length ≤ c1) (h : tacticianref01_Same.f k l0 l1 = some r) :
    Calls Tryz.prog 22 #[.slice A0 l0.length c0, .slice A1 l1.length c1] w fun e w' => e = .returned (.bool r) ∧ Drawn0 w w' := by
  have hu25 := Tryz.underlying25
  have HR0 := Aside0.mk hr0
  have HC0 := Aside0.mk hc0
  clear hr0 hc0
  have HR1 := Aside0.mk hr1
  have HC1 := Aside0.mk hc1
  clear hr1 hc1
  have H : (if (l0.length : Int) = (l1.length : Int) then (tacticianref01_Same.l0 k l0 l1 0) else (some false)) = some r := h
  clear h
  by_cases c3 : (l0.length : Int) = (l1.length : Int)
  · rw [if_pos c3] at H
    have c3b0 : ((l0.length : Int) == (l1.length : Int)) = true := beq_iff_eq.mpr c3
    have c3b1 : ((l0.length : Int) != (l1.length : Int)) = false := bne_eq_false_iff_eq.mpr c3
    have c3b2 : (l0.length == l1.length) = true := by first | simpa using c3 | (simp at c3 ⊢; omega)
    clear c3
    have H' := Aside0.mk H
    clear H
    go_enter Tryz.func22, Tryz.ntmps22
    go_wp2
    repeat (go_quiet (fail); try go_wp2)
    go_loopg [5] k (fun kq v5 w' => ∃ (x5_1 : Int), v5 = .int .i64 x5_1 ∧ Aside0 (tacticianref01_Same.l0 kq l0 l1 x5_1 = some r) ∧ Aside0 (kq ≤ k) ∧ Drawn0 w w')
    case atStart => exact ⟨(0), (by first | rfl | (simp; done) | (simp [*]; done)), H', ⟨Nat.le_refl _⟩, by repeat (first | exact Drawn0.refl _ | apply Drawn0.step)⟩
    case round =>
      clear H'
      try clear c1
      try clear c2
      try clear p2
      try clear c3
      try clear c3b0
      try clear c3b1
      try clear c3b2
      obtain ⟨x5_1, rfl, HA, HK1, ⟨m1, rfl⟩⟩ := hrel
      cases gk with
      | zero => exact absurd HA.out (by simp [tacticianref01_Same.l0])
      | succ k1 =>
        have H := HA.out
        clear HA
        simp only [tacticianref01_Same.l0] at H
        by_cases c4 : x5_1 < (l0.length : Int)
        · rw [if_pos c4] at H
          have c4b0 : decide (x5_1 < (l0.length : Int)) = true := decide_eq_true c4
          clear c4
          by_cases c5 : 0 ≤ x5_1
          · rw [if_pos c5] at H
            have c5b0 : decide (0 ≤ x5_1) = true := decide_eq_true c5
            clear c5
            by_cases c6 : x5_1 < (l1.length : Int)
            · rw [if_pos c6] at H
              have c6b0 : decide (x5_1 < (l1.length : Int)) = true := decide_eq_true c6
              clear c6
              by_cases c7 : (!(((rd_T25 l0 x5_1).f0) == ((rd_T25 l1 x5_1).f0)) || (!(((rd_T25 l0 x5_1).f1) == ((rd_T25 l1 x5_1).f1)) || (!((((rd_T25 l0 x5_1).f2).toList) == (((rd_T25 l1 x5_1).f2).toList))))) = true
              · rw [if_pos c7] at H
                have c7b0 : (!(((rd_T25 l0 x5_1).f0) == ((rd_T25 l1 x5_1).f0)) || (!(((rd_T25 l0 x5_1).f1) == ((rd_T25 l1 x5_1).f1)) || (!((((rd_T25 l0 x5_1).f2).toList) == (((rd_T25 l1 x5_1).f2).toList))))) = true := c7
                clear c7
                obtain rfl := Option.some.inj H
                have p261 : 0 ≤ (x5_1 : Int) := of_decide_eq_true (by first | (with_reducible assumption) | assumption)
                have q261 : x5_1 < (l0.length : Int) := of_decide_eq_true (by first | (with_reducible assumption) | assumption)
                obtain ⟨ad261, e261, hx261_0, hx261_1, hx261_2⟩ := at_T25 HR0.out x5_1 p261 q261
                cases e261
                replace p261 := eq_true p261
                replace q261 := eq_true q261
                have p262 : 0 ≤ (x5_1 : Int) := of_decide_eq_true (by first | (with_reducible assumption) | assumption)
                have q262 : x5_1 < (l1.length : Int) := of_decide_eq_true (by first | (with_reducible assumption) | assumption)
                obtain ⟨ad262, e262, hx262_0, hx262_1, hx262_2⟩ := at_T25 HR1.out x5_1 p262 q262
                cases e262
                replace p262 := eq_true p262
                replace q262 := eq_true q262
                go_wp2
                repeat (go_quiet (fail); try go_wp2)
                go_ret
                exact ⟨by first | rfl | (simp; done) | (simp [*]; done), by repeat (first | exact Drawn0.refl _ | apply Drawn0.step)⟩
              · rw [if_neg c7] at H
                have c7b0 : (!(((rd_T25 l0 x5_1).f0) == ((rd_T25 l1 x5_1).f0)) || (!(((rd_T25 l0 x5_1).f1) == ((rd_T25 l1 x5_1).f1)) || (!((((rd_T25 l0 x5_1).f2).toList) == (((rd_T25 l1 x5_1).f2).toList))))) = false := by simpa using c7
                clear c7
                have H' := Aside0.mk H
                clear H
                have p261 : 0 ≤ (x5_1 : Int) := of_decide_eq_true (by first | (with_reducible assumption) | assumption)
                have q261 : x5_1 < (l0.length : Int) := of_decide_eq_true (by first | (with_reducible assumption) | assumption)
                obtain ⟨ad261, e261, hx261_0, hx261_1, hx261_2⟩ := at_T25 HR0.out x5_1 p261 q261
                cases e261
                replace p261 := eq_true p261
                replace q261 := eq_true q261
                have p262 : 0 ≤ (x5_1 : Int) := of_decide_eq_true (by first | (with_reducible assumption) | assumption)
                have q262 : x5_1 < (l1.length : Int) := of_decide_eq_true (by first | (with_reducible assumption) | assumption)
                obtain ⟨ad262, e262, hx262_0, hx262_1, hx262_2⟩ := at_T25 HR1.out x5_1 p262 q262
                cases e262
                replace p262 := eq_true p262
                replace q262 := eq_true q262
                go_wp2
                repeat (go_quiet (fail); try go_wp2)
                go_roundg k1
                case measure => have := HK1.out; omega
                case rel => exact ⟨(wrap64 (x5_1 + 1)), (by first | rfl | (simp; done) | (simp [*]; done)), H', ⟨by have := HK1.out; omega⟩, by repeat (first | exact Drawn0.refl _ | apply Drawn0.step)⟩
            · rw [if_neg c6] at H
              exact absurd H (by simp)
          · rw [if_neg c5] at H
            exact absurd H (by simp)
        · rw [if_neg c4] at H
          have c4b0 : decide (x5_1 < (l0.length : Int)) = false := decide_eq_false c4
          clear c4
          obtain rfl := Option.some.inj H
          go_wp2
          repeat (go_quiet (fail); try go_wp2)
          go_ret
          exact ⟨by first | rfl | (simp; done) | (simp [*]; done), by repeat (first | exact Drawn0.refl _ | apply Drawn0.step)⟩
  · rw [if_neg c3] at H
    have c3b0 : ((l0.length : Int) == (l1.length : Int)) = false := beq_eq_false_iff_ne.mpr c3
    have c3b1 : ((l0.length : Int) != (l1.length : Int)) = true := bne_iff_ne.mpr c3
    have c3b2 : (l0.length == l1.length) = false := by first | simpa using c3 | (simp at c3 ⊢; omega)
    obtain rfl := Option.some.inj H
    go_enter Tryz.func22, Tryz.ntmps22
    go_wp2
    repeat (go_quiet (fail); try go_wp2)
    go_ret
    exact ⟨by first | rfl | (simp; done) | (simp [*]; done), by repeat (first | exact Drawn0.refl _ | apply Drawn0.step)⟩

end Go.Proofs.YtinhpbmoiamepaaGreatDoor.Q
