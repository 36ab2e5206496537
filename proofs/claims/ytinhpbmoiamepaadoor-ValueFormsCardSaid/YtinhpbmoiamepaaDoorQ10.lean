/- Each function reached is shown to return what the plain function beside it computes, wherever that is defined (written by a program of ours for this seat). -/
import Derived.Test.YtinhpbmoiamepaaDoorQ0
import Derived.Test.YtinhpbmoiamepaaDoorPlain
import Derived.Test.YtinhpbmoiamepaaDoorPlainRead
namespace Go.Proofs.YtinhpbmoiamepaaDoor.Q
open Go.RowKit Go.Proofs.YtinhpbmoiamepaaDoorW.PrintWords Go.Proofs.YtinhpbmoiamepaaDoorW.PrintLast Go.Proofs.YtinhpbmoiamepaaDoorW.PrintMore
attribute [local go_sem] max2_int min2_int max_two min_two max_three min_three max_four min_four   -- for this text's walks alone
set_option linter.unusedVariables false
set_option linter.unusedSimpArgs false

/-! ### tacticianref01_Digits: function 32 -/
def tacticianref01_Digits.f : Nat → Int → Option (ByteArray)
  | 0, _ => none
  | k + 1, a0 => if a0 < 0 then ((some (([(wrap64 (48 - (Int.tmod a0 10))) % 256] : List Int) : List Int)).bind fun y242 => (if a0 > (-10) then (if 1 + (strOfNums y242).size ≤ 9223372036854775807 then (some ((⟨#[45]⟩ : ByteArray) ++ (strOfNums y242))) else (none)) else ((tacticianref01_Digits.f k (wrap64 (Int.tdiv a0 10))).bind fun t245 => (if t245.size + (strOfNums y242).size ≤ 9223372036854775807 then (some (t245 ++ (strOfNums y242))) else (none))))) else ((some (([(wrap64 (48 + (Int.tmod a0 10))) % 256] : List Int) : List Int)).bind fun y246 => (if a0 < 10 then (some (strOfNums y246)) else ((tacticianref01_Digits.f k (wrap64 (Int.tdiv a0 10))).bind fun t249 => (if t249.size + (strOfNums y246).size ≤ 9223372036854775807 then (some (t249 ++ (strOfNums y246))) else (none)))))
theorem tacticianref01_Digits.mono_l : ∀ k, (∀ y0, LeO (tacticianref01_Digits.f k y0) (tacticianref01_Digits.f (k + 1) y0))
  | 0 => fun _ r h => by simp [tacticianref01_Digits.f] at h
  | k + 1 => by
    have ih0 := tacticianref01_Digits.mono_l k
    · intro y0
      unfold tacticianref01_Digits.f
      repeat' first
      | (with_reducible exact ih0 _)
      | (with_reducible exact LeO.refl _)
      | (with_reducible exact LeO.none _)
      | (with_reducible refine LeO.ite ?_ ?_)
      | (with_reducible refine LeO.bind ?_ (fun _ => ?_))
      | exact ih0 _
      | exact LeO.none _
      | refine LeO.ite ?_ ?_
      | refine LeO.bind ?_ (fun _ => ?_)
theorem tacticianref01_Digits.mono : ∀ a0 k, LeO (tacticianref01_Digits.f k a0) (tacticianref01_Digits.f (k + 1) a0) := by
  intro a0 k
  have ih0 := tacticianref01_Digits.mono_l k
  exact ih0 a0
set_option maxHeartbeats 8000000 in
set_option maxRecDepth 100000 in
theorem tacticianref01_Digits.calls (k : Nat) : ∀ (a0 : Int) (r : ByteArray) (w : World) (h : tacticianref01_Digits.f k a0 = some r),
    Calls Tryd.prog 32 #[.int .i64 a0] w fun e w' => e = .returned (.string r) ∧ Below w.heap.size w w' := by
  induction k using Nat.strongRecOn with
  | _ k ih =>
  intro a0 r w h
  cases k with
  | zero => exact absurd h (by simp [tacticianref01_Digits.f])
  | succ k =>
  simp only [tacticianref01_Digits.f] at h
  have HB := Aside0.mk (Below.refl w.heap.size w)
  have H : (if a0 < 0 then ((some (([(wrap64 (48 - (Int.tmod a0 10))) % 256] : List Int) : List Int)).bind fun y242 => (if a0 > (-10) then (if 1 + (strOfNums y242).size ≤ 9223372036854775807 then (some ((⟨#[45]⟩ : ByteArray) ++ (strOfNums y242))) else (none)) else ((tacticianref01_Digits.f k (wrap64 (Int.tdiv a0 10))).bind fun t245 => (if t245.size + (strOfNums y242).size ≤ 9223372036854775807 then (some (t245 ++ (strOfNums y242))) else (none))))) else ((some (([(wrap64 (48 + (Int.tmod a0 10))) % 256] : List Int) : List Int)).bind fun y246 => (if a0 < 10 then (some (strOfNums y246)) else ((tacticianref01_Digits.f k (wrap64 (Int.tdiv a0 10))).bind fun t249 => (if t249.size + (strOfNums y246).size ≤ 9223372036854775807 then (some (t249 ++ (strOfNums y246))) else (none)))))) = some r := h
  clear h
  by_cases c2 : a0 < 0
  · rw [if_pos c2] at H
    have c2b0 : decide (a0 < 0) = true := decide_eq_true c2
    clear c2
    obtain ⟨y242, hy242⟩ : ∃ y_ : List Int, y_ = (([(wrap64 (48 - (Int.tmod a0 10))) % 256] : List Int)) := ⟨_, rfl⟩
    replace H : (if a0 > (-10) then (if 1 + (strOfNums y242).size ≤ 9223372036854775807 then (some ((⟨#[45]⟩ : ByteArray) ++ (strOfNums y242))) else (none)) else ((tacticianref01_Digits.f k (wrap64 (Int.tdiv a0 10))).bind fun t245 => (if t245.size + (strOfNums y242).size ≤ 9223372036854775807 then (some (t245 ++ (strOfNums y242))) else (none)))) = some r := by first | (rw [hy242]; with_reducible exact H) | (have H2_ := (Option.bind_some _ _).symm.trans H; rw [hy242]; with_reducible exact H2_) | (have H2_ := (Option.bind_some _ _).symm.trans H; with_reducible exact H2_) | with_reducible exact H | (rw [hy242]; exact H) | exact H
    have Ny242 := Aside0.mk hy242
    clear hy242
    by_cases c3 : a0 > (-10)
    · rw [if_pos c3] at H
      have c3b0 : decide ((-10) < a0) = true := decide_eq_true c3
      clear c3
      by_cases c4 : 1 + (strOfNums y242).size ≤ 9223372036854775807
      · rw [if_pos c4] at H
        have c4b0 := eq_true c4
        have c4b1 : decide (1 + (strOfNums y242).size ≤ 9223372036854775807) = true := decide_eq_true c4
        try have c4b2 : (9223372036854775807 < 1 + (strOfNums y242).size) = False := eq_false (Nat.not_lt.2 c4)
        obtain rfl := Option.some.inj H
        go_enter Tryd.func32, Tryd.ntmps32
        go_wp2_with (first | ((with_reducible refine gate_dst (N := 11) rfl ?_); refine Kd.R_lit (Kd.int .u8) _ 5 ?hg (N := 11) ?hd (xs := ([(wrap64 (48 - (Int.tmod a0 10))) % 256] : List Int)) (inner := [.int .u8 ((wrap64 (48 - (Int.tmod a0 10))) % 256)]) (ok := fun _ => True) (okp := fun _ => True) ?hr ?hp (fun _ hk => hk) trivial (Below.refl _ _) (Nat.le_refl _) (by simp) ?_; (case hd => rfl); (case hg => rfl); (case hr => first | (go_simp; done) | (go_simp; rfl)); (case hp => exact (Reps.one (show Kd.M (Kd.int .u8) _ _ _ ((wrap64 (48 - (Int.tmod a0 10))) % 256) [.int .u8 ((wrap64 (48 - (Int.tmod a0 10))) % 256)] from rfl) (Reps.none _ _))); intro v243 w5 ho6 hb hg_ hnew_; clear hg_ hnew_; (first | rw [← Ny242.out] at ho6 | (simp only [Int.reduceToNat] at ho6; rw [← Ny242.out] at ho6)); have n0_ := Aside0.mk (Kd.R_lower ho6 (below_size (by repeat (first | (with_reducible first | exact HB.out | apply yA | apply yN | apply yD) | exact HB.out)))); have n1_ := Aside0.mk (below_step (by repeat (first | (with_reducible first | exact HB.out | apply yA | apply yN | apply yD) | exact HB.out)) hb); clear HB; have HO244 := n0_; have HB := n1_; clear n0_ n1_; clear hb ho6; have hcv7 := own_string (P := Tryd.prog) Tryd.underlying22 Tryd.underlying5 Tryd.underlying9 (Kd.own_of_R HO244.out)))
        go_ret
        exact ⟨by first | rfl | (simp [errW_none, errW_some] <;> rfl) | (simp [*, errW_none, errW_some] <;> rfl), by repeat (first | (with_reducible first | exact HB.out | apply yA | apply yN | apply yD) | exact HB.out)⟩
      · rw [if_neg c4] at H
        exact absurd H (by simp)
    · rw [if_neg c3] at H
      have c3b0 : decide ((-10) < a0) = false := decide_eq_false c3
      clear c3
      replace H := Option.bind_eq_some_iff.mp H
      obtain ⟨t245, A80, H⟩ := H
      replace H : (if t245.size + (strOfNums y242).size ≤ 9223372036854775807 then (some (t245 ++ (strOfNums y242))) else (none)) = some r := H
      have A8 := Aside0.mk A80
      clear A80
      by_cases c9 : t245.size + (strOfNums y242).size ≤ 9223372036854775807
      · rw [if_pos c9] at H
        have c9b0 := eq_true c9
        have c9b1 : decide (t245.size + (strOfNums y242).size ≤ 9223372036854775807) = true := decide_eq_true c9
        try have c9b2 : (9223372036854775807 < t245.size + (strOfNums y242).size) = False := eq_false (Nat.not_lt.2 c9)
        obtain rfl := Option.some.inj H
        go_enter Tryd.func32, Tryd.ntmps32
        go_wp2_with (first | ((with_reducible refine gate_dst (N := 11) rfl ?_); refine Kd.R_lit (Kd.int .u8) _ 5 ?hg (N := 11) ?hd (xs := ([(wrap64 (48 - (Int.tmod a0 10))) % 256] : List Int)) (inner := [.int .u8 ((wrap64 (48 - (Int.tmod a0 10))) % 256)]) (ok := fun _ => True) (okp := fun _ => True) ?hr ?hp (fun _ hk => hk) trivial (Below.refl _ _) (Nat.le_refl _) (by simp) ?_; (case hd => rfl); (case hg => rfl); (case hr => first | (go_simp; done) | (go_simp; rfl)); (case hp => exact (Reps.one (show Kd.M (Kd.int .u8) _ _ _ ((wrap64 (48 - (Int.tmod a0 10))) % 256) [.int .u8 ((wrap64 (48 - (Int.tmod a0 10))) % 256)] from rfl) (Reps.none _ _))); intro v243 w10 ho11 hb hg_ hnew_; clear hg_ hnew_; (first | rw [← Ny242.out] at ho11 | (simp only [Int.reduceToNat] at ho11; rw [← Ny242.out] at ho11)); have n0_ := Aside0.mk (Kd.R_lower ho11 (below_size (by repeat (first | (with_reducible first | exact HB.out | apply yA | apply yN | apply yD) | exact HB.out)))); have n1_ := Aside0.mk (below_step (by repeat (first | (with_reducible first | exact HB.out | apply yA | apply yN | apply yD) | exact HB.out)) hb); clear HB; have HO244 := n0_; have HB := n1_; clear n0_ n1_; clear hb ho11; have hcv12 := own_string (P := Tryd.prog) Tryd.underlying22 Tryd.underlying5 Tryd.underlying9 (Kd.own_of_R HO244.out)) | ((with_reducible refine gate_callee (f := 32) rfl ?_); refine goesL_ (some 19) rfl rfl Tryd.func32 (by kernel_rfl) rfl #[.int .i64 (wrap64 (Int.tdiv a0 10))] rfl (by (try simp only [List.map_toArray, List.map_cons, List.map_nil]); first | done | rfl | (simp only [List.length_drop, List.length_take]; rfl)) ?_; (with_reducible refine (ih k (by omega) (wrap64 (Int.tdiv a0 10)) t245 _ A8.out).mono ?_); rintro e w13 ⟨rfl, hb⟩; refine ⟨_, rfl, ?_⟩; have n0_ := Aside0.mk (Kd.R_below (by (with_reducible repeat (first | apply Kd.R_alloc | apply Kd.R_drewN | apply Kd.R_drew)); exact HO244.out) hb); have n1_ := Aside0.mk (below_step (by repeat (first | (with_reducible first | exact HB.out | apply yA | apply yN | apply yD) | exact HB.out)) hb); clear HO244; clear HB; have HO244 := n0_; have HB := n1_; clear n0_ n1_; (try clear hb); (try clear hb2); (try clear hk); (try clear hi)))
        go_ret
        exact ⟨by first | rfl | (simp [errW_none, errW_some] <;> rfl) | (simp [*, errW_none, errW_some] <;> rfl), by repeat (first | (with_reducible first | exact HB.out | apply yA | apply yN | apply yD) | exact HB.out)⟩
      · rw [if_neg c9] at H
        exact absurd H (by simp)
  · rw [if_neg c2] at H
    have c2b0 : decide (a0 < 0) = false := decide_eq_false c2
    clear c2
    obtain ⟨y246, hy246⟩ : ∃ y_ : List Int, y_ = (([(wrap64 (48 + (Int.tmod a0 10))) % 256] : List Int)) := ⟨_, rfl⟩
    replace H : (if a0 < 10 then (some (strOfNums y246)) else ((tacticianref01_Digits.f k (wrap64 (Int.tdiv a0 10))).bind fun t249 => (if t249.size + (strOfNums y246).size ≤ 9223372036854775807 then (some (t249 ++ (strOfNums y246))) else (none)))) = some r := by first | (rw [hy246]; with_reducible exact H) | (have H2_ := (Option.bind_some _ _).symm.trans H; rw [hy246]; with_reducible exact H2_) | (have H2_ := (Option.bind_some _ _).symm.trans H; with_reducible exact H2_) | with_reducible exact H | (rw [hy246]; exact H) | exact H
    have Ny246 := Aside0.mk hy246
    clear hy246
    by_cases c14 : a0 < 10
    · rw [if_pos c14] at H
      have c14b0 : decide (a0 < 10) = true := decide_eq_true c14
      clear c14
      obtain rfl := Option.some.inj H
      go_enter Tryd.func32, Tryd.ntmps32
      go_wp2_with (first | ((with_reducible refine gate_dst (N := 26) rfl ?_); refine Kd.R_lit (Kd.int .u8) _ 5 ?hg (N := 26) ?hd (xs := ([(wrap64 (48 + (Int.tmod a0 10))) % 256] : List Int)) (inner := [.int .u8 ((wrap64 (48 + (Int.tmod a0 10))) % 256)]) (ok := fun _ => True) (okp := fun _ => True) ?hr ?hp (fun _ hk => hk) trivial (Below.refl _ _) (Nat.le_refl _) (by simp) ?_; (case hd => rfl); (case hg => rfl); (case hr => first | (go_simp; done) | (go_simp; rfl)); (case hp => exact (Reps.one (show Kd.M (Kd.int .u8) _ _ _ ((wrap64 (48 + (Int.tmod a0 10))) % 256) [.int .u8 ((wrap64 (48 + (Int.tmod a0 10))) % 256)] from rfl) (Reps.none _ _))); intro v247 w15 ho16 hb hg_ hnew_; clear hg_ hnew_; (first | rw [← Ny246.out] at ho16 | (simp only [Int.reduceToNat] at ho16; rw [← Ny246.out] at ho16)); have n0_ := Aside0.mk (Kd.R_lower ho16 (below_size (by repeat (first | (with_reducible first | exact HB.out | apply yA | apply yN | apply yD) | exact HB.out)))); have n1_ := Aside0.mk (below_step (by repeat (first | (with_reducible first | exact HB.out | apply yA | apply yN | apply yD) | exact HB.out)) hb); clear HB; have HO248 := n0_; have HB := n1_; clear n0_ n1_; clear hb ho16; have hcv17 := own_string (P := Tryd.prog) Tryd.underlying22 Tryd.underlying5 Tryd.underlying9 (Kd.own_of_R HO248.out)))
      go_ret
      exact ⟨by first | rfl | (simp [errW_none, errW_some] <;> rfl) | (simp [*, errW_none, errW_some] <;> rfl), by repeat (first | (with_reducible first | exact HB.out | apply yA | apply yN | apply yD) | exact HB.out)⟩
    · rw [if_neg c14] at H
      have c14b0 : decide (a0 < 10) = false := decide_eq_false c14
      clear c14
      replace H := Option.bind_eq_some_iff.mp H
      obtain ⟨t249, A180, H⟩ := H
      replace H : (if t249.size + (strOfNums y246).size ≤ 9223372036854775807 then (some (t249 ++ (strOfNums y246))) else (none)) = some r := H
      have A18 := Aside0.mk A180
      clear A180
      by_cases c19 : t249.size + (strOfNums y246).size ≤ 9223372036854775807
      · rw [if_pos c19] at H
        have c19b0 := eq_true c19
        have c19b1 : decide (t249.size + (strOfNums y246).size ≤ 9223372036854775807) = true := decide_eq_true c19
        try have c19b2 : (9223372036854775807 < t249.size + (strOfNums y246).size) = False := eq_false (Nat.not_lt.2 c19)
        obtain rfl := Option.some.inj H
        go_enter Tryd.func32, Tryd.ntmps32
        go_wp2_with (first | ((with_reducible refine gate_dst (N := 26) rfl ?_); refine Kd.R_lit (Kd.int .u8) _ 5 ?hg (N := 26) ?hd (xs := ([(wrap64 (48 + (Int.tmod a0 10))) % 256] : List Int)) (inner := [.int .u8 ((wrap64 (48 + (Int.tmod a0 10))) % 256)]) (ok := fun _ => True) (okp := fun _ => True) ?hr ?hp (fun _ hk => hk) trivial (Below.refl _ _) (Nat.le_refl _) (by simp) ?_; (case hd => rfl); (case hg => rfl); (case hr => first | (go_simp; done) | (go_simp; rfl)); (case hp => exact (Reps.one (show Kd.M (Kd.int .u8) _ _ _ ((wrap64 (48 + (Int.tmod a0 10))) % 256) [.int .u8 ((wrap64 (48 + (Int.tmod a0 10))) % 256)] from rfl) (Reps.none _ _))); intro v247 w20 ho21 hb hg_ hnew_; clear hg_ hnew_; (first | rw [← Ny246.out] at ho21 | (simp only [Int.reduceToNat] at ho21; rw [← Ny246.out] at ho21)); have n0_ := Aside0.mk (Kd.R_lower ho21 (below_size (by repeat (first | (with_reducible first | exact HB.out | apply yA | apply yN | apply yD) | exact HB.out)))); have n1_ := Aside0.mk (below_step (by repeat (first | (with_reducible first | exact HB.out | apply yA | apply yN | apply yD) | exact HB.out)) hb); clear HB; have HO248 := n0_; have HB := n1_; clear n0_ n1_; clear hb ho21; have hcv22 := own_string (P := Tryd.prog) Tryd.underlying22 Tryd.underlying5 Tryd.underlying9 (Kd.own_of_R HO248.out)) | ((with_reducible refine gate_callee (f := 32) rfl ?_); refine goesL_ (some 33) rfl rfl Tryd.func32 (by kernel_rfl) rfl #[.int .i64 (wrap64 (Int.tdiv a0 10))] rfl (by (try simp only [List.map_toArray, List.map_cons, List.map_nil]); first | done | rfl | (simp only [List.length_drop, List.length_take]; rfl)) ?_; (with_reducible refine (ih k (by omega) (wrap64 (Int.tdiv a0 10)) t249 _ A18.out).mono ?_); rintro e w23 ⟨rfl, hb⟩; refine ⟨_, rfl, ?_⟩; have n0_ := Aside0.mk (Kd.R_below (by (with_reducible repeat (first | apply Kd.R_alloc | apply Kd.R_drewN | apply Kd.R_drew)); exact HO248.out) hb); have n1_ := Aside0.mk (below_step (by repeat (first | (with_reducible first | exact HB.out | apply yA | apply yN | apply yD) | exact HB.out)) hb); clear HO248; clear HB; have HO248 := n0_; have HB := n1_; clear n0_ n1_; (try clear hb); (try clear hb2); (try clear hk); (try clear hi)))
        go_ret
        exact ⟨by first | rfl | (simp [errW_none, errW_some] <;> rfl) | (simp [*, errW_none, errW_some] <;> rfl), by repeat (first | (with_reducible first | exact HB.out | apply yA | apply yN | apply yD) | exact HB.out)⟩
      · rw [if_neg c19] at H
        exact absurd H (by simp)

theorem strOf_one (x : Int) : strOfNums [x] = ofL [UInt8.ofNat x.toNat] := by
  apply ba_ext
  rw [ofL_data]
  simp [strOfNums]
theorem tacticianref01_Digits.base (n : Int) (hn : n.natAbs < 10) (k : Nat) (hk : 0 < k) : tacticianref01_Digits.f k n = some (ofL (Lib.itoa n)) := by
  obtain ⟨k, rfl⟩ : ∃ m, k = m + 1 := ⟨k - 1, by omega⟩
  simp only [tacticianref01_Digits.f, Option.bind_some]
  rcases itoa_cases n with ⟨h0, e⟩ | ⟨h0, e⟩
  · have e1 : (wrap64 (48 - n.tmod 10)) % 256 = 48 + (n.natAbs : Int) := by
      have : n.tmod 10 = n := by obtain ⟨m, rfl⟩ : ∃ m : Nat, n = -(m : Int) := ⟨n.natAbs, by omega⟩
                                 rw [Int.neg_tmod, Int.tmod_eq_emod_of_nonneg (by omega)]; omega
      rw [this]; unfold wrap64; omega
    rw [if_pos h0, if_pos (by omega), e1, strOf_one, if_pos (by rw [ofL_size]; exact (show 1 + 1 ≤ 9223372036854775807 by decide)), e, Lib.decDigits_one hn]
    apply congrArg some
    apply ba_ext
    rw [append_data, ofL_data, ofL_data, show (48 + (n.natAbs : Int)).toNat = 48 + n.natAbs by omega]
    rfl
  · have e1 : (wrap64 (48 + n.tmod 10)) % 256 = 48 + (n.natAbs : Int) := by
      have : n.tmod 10 = n := by rw [Int.tmod_eq_emod_of_nonneg h0]; omega
      rw [this]; unfold wrap64; omega
    rw [if_neg (by omega), if_pos (by omega), e1, strOf_one, e, Lib.decDigits_one hn, show (48 + (n.natAbs : Int)).toNat = 48 + n.natAbs by omega]
theorem tacticianref01_Digits.at : ∀ (d : Nat) (n : Int), inI64 n = true → n.natAbs < 10 ^ (d + 1) → ∀ k, d < k → tacticianref01_Digits.f k n = some (ofL (Lib.itoa n)) := by
  intro d
  induction d with
  | zero =>
    intro n hi hn k hk
    exact tacticianref01_Digits.base n (by simpa using hn) k hk
  | succ d ih =>
    intro n hi hn k hk
    by_cases hs : n.natAbs < 10
    · exact tacticianref01_Digits.base n hs k (by omega)
    obtain ⟨k, rfl⟩ : ∃ m, k = m + 1 := ⟨k - 1, by omega⟩
    obtain ⟨i0, i1⟩ := inI64_bd hi
    have hd : Lib.decDigits n.natAbs = Lib.decDigits (n.natAbs / 10) ++ [UInt8.ofNat (48 + n.natAbs % 10)] := by rw [Lib.decDigits, dif_neg hs]
    have hq : (n.natAbs / 10) < 10 ^ (d + 1) := by rw [Nat.pow_succ] at hn; omega
    simp only [tacticianref01_Digits.f, Option.bind_some]
    rcases itoa_cases n with ⟨h0, e⟩ | ⟨h0, e⟩
    · obtain ⟨m, rfl⟩ : ∃ m : Nat, n = -(m : Int) := ⟨n.natAbs, by omega⟩
      have hm : (-(m : Int)).natAbs = m := by omega
      rw [hm] at hs hd hq e
      have e1 : (wrap64 (48 - (-(m : Int)).tmod 10)) % 256 = 48 + ((m % 10 : Nat) : Int) := by
        rw [Int.neg_tmod, Int.tmod_eq_emod_of_nonneg (by omega)]; unfold wrap64; omega
      have e2 : wrap64 ((-(m : Int)).tdiv 10) = -((m / 10 : Nat) : Int) := by
        rw [Int.neg_tdiv, Int.tdiv_eq_ediv_of_nonneg (by omega)]; unfold wrap64; omega
      have h2 := ih (-((m / 10 : Nat) : Int)) (inI64_mk (by omega) (by omega)) (by omega) k (by omega)
      have hit : Lib.itoa (-((m / 10 : Nat) : Int)) = 45 :: Lib.decDigits (m / 10) := Lib.itoa_neg _ (by omega)
      have hl := Lib.itoa_length_le (-((m / 10 : Nat) : Int)) (by omega) (by omega)
      rw [if_pos h0, if_neg (by omega), e1, strOf_one, e2, h2]
      simp only [Option.bind_some]
      rw [if_pos (by rw [ofL_size, ofL_size]; have : [UInt8.ofNat (48 + ((m % 10 : Nat) : Int)).toNat].length = 1 := rfl
                     omega), e, hd]
      apply congrArg some
      apply ba_ext
      rw [append_data, ofL_data, ofL_data, ofL_data, hit, show (48 + ((m % 10 : Nat) : Int)).toNat = 48 + m % 10 by omega]
      rfl
    · obtain ⟨m, rfl⟩ : ∃ m : Nat, n = (m : Int) := ⟨n.natAbs, by omega⟩
      have hm : ((m : Int)).natAbs = m := by omega
      rw [hm] at hs hd hq e
      have e1 : (wrap64 (48 + ((m : Int)).tmod 10)) % 256 = 48 + ((m % 10 : Nat) : Int) := by
        rw [Int.tmod_eq_emod_of_nonneg (by omega)]; unfold wrap64; omega
      have e2 : wrap64 (((m : Int)).tdiv 10) = ((m / 10 : Nat) : Int) := by
        rw [Int.tdiv_eq_ediv_of_nonneg (by omega)]; unfold wrap64; omega
      have h2 := ih ((m / 10 : Nat) : Int) (inI64_mk (by omega) (by omega)) (by omega) k (by omega)
      have hit : Lib.itoa ((m / 10 : Nat) : Int) = Lib.decDigits (m / 10) := Lib.itoa_nonneg _
      have hl := Lib.itoa_length_le ((m / 10 : Nat) : Int) (by omega) (by omega)
      rw [if_neg (by omega), if_neg (by omega), e1, strOf_one, e2, h2]
      simp only [Option.bind_some]
      rw [if_pos (by rw [ofL_size, ofL_size]; have : [UInt8.ofNat (48 + ((m % 10 : Nat) : Int)).toNat].length = 1 := rfl
                     omega), e, hd]
      apply congrArg some
      apply ba_ext
      rw [append_data, ofL_data, ofL_data, ofL_data, hit, show (48 + ((m % 10 : Nat) : Int)).toNat = 48 + m % 10 by omega]
def tacticianref01_Digits_s.f (a0 : Int) : Option (ByteArray) := if inI64 a0 = true then some (ofL (Lib.itoa a0)) else none
theorem tacticianref01_Digits_s.calls (a0 : Int) (r : ByteArray) (w : World) (h : tacticianref01_Digits_s.f a0 = some r) :
    Calls Tryd.prog 32 #[.int .i64 a0] w fun e w' => e = .returned (.string r) ∧ Below w.heap.size w w' := by
  unfold tacticianref01_Digits_s.f at h
  by_cases hs : inI64 a0 = true
  · rw [if_pos hs] at h
    obtain rfl := Option.some.inj h
    obtain ⟨i0, i1⟩ := inI64_bd hs
    exact tacticianref01_Digits.calls 21 a0 _ w (tacticianref01_Digits.at 19 a0 hs (by rw [show (10 : Nat) ^ (19 + 1) = 100000000000000000000 from rfl]; omega) 21 (by omega))
  · rw [if_neg hs] at h; cases h



end Go.Proofs.YtinhpbmoiamepaaDoor.Q
