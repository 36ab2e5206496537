/- Lemmas for the claim: contracts of functions and facts about what they compute, part 6 (texts put together, and cut down to what is used, by a program of ours). -/
import Derived.Test.YtmhobbdedmjmnaaGreatDoorMApart4
section
/- Each function reached is shown to return what the plain function beside it computes, wherever that is defined (written by a program of ours for this seat). -/
namespace Go.Proofs.YtmhobbdedmjmnaaGreatDoor.Q
open Go.RowKit Go.Proofs.YtmhobbdedmjmnaaGreatDoorW.PrintWords Go.Proofs.YtmhobbdedmjmnaaGreatDoorW.PrintLast Go.Proofs.YtmhobbdedmjmnaaGreatDoorW.PrintMore
attribute [local go_sem] max2_int min2_int max_two min_two max_three min_three max_four min_four   -- for this text's walks alone
set_option linter.unusedVariables false
set_option linter.unusedSimpArgs false
/-! ### tacticianlaw02_awake: function 18 -/
section
/-- a number, as a value -/
abbrev iV (n : Int) : V := ⟨1, n, ⟨#[]⟩⟩
theorem below_any {w w' : World} (h : Below w.heap.size w w') : Below w.heap.size w w' := h
theorem rowK {W : World} {A : Option Addr} {n c : Nat} {x : List V} (h : Kd.C k61 W A n x) (hc : n ≤ c) : (Kd.slice 61 k61).K W x [.slice A n c] := by
  obtain rfl := h.1
  exact ⟨A, c, rfl, hc, h⟩
theorem rowKnil {W : World} : (Kd.slice 61 k61).K W [] [.slice none 0 0] := ⟨none, 0, rfl, Nat.le_refl _, Kd.C_nil _ _⟩
theorem rowLit1 (n : Int) (W : World) {g : Nat} (hg : g = W.heap.size) : Calls Tryz.prog 57 #[.slice (some ⟨g, 0, none⟩) 1 1] (W.alloc (.cells #[.int .i64 n] 2)) fun e w' => ∃ A c, e = .returned (.slice A 1 c) ∧ 1 ≤ c ∧ Kd.C k61 w' A 1 [iV n] ∧ Below W.heap.size W w' := by
  subst hg
  have hC : Kd.C (Kd.int .i64) (W.alloc (.cells #[.int .i64 n] 2)) (some ⟨W.heap.size, 0, none⟩) 1 [n] := C_lit rfl (blk_new W _) (Reps.one rfl (Reps.none _ _)) (show 1 ≤ 1000 by decide)
  refine (tacticianlaw02_row.calls 3 (some ⟨W.heap.size, 0, none⟩) 1 [n] [iV n] _ hC (Nat.le_refl _) (by simp [tacticianlaw02_row.f, tacticianlaw02_row.l0, tacticianref01_Int.f, rd, iV, wrap64])).mono ?_
  rintro e w' ⟨v, rfl, hv, hb⟩
  obtain ⟨A, c, rfl, h1, h2⟩ := Kd.R_reads hv
  exact ⟨A, c, rfl, h1, h2, below_step (below_alloc (Below.refl _ _) _) hb⟩
theorem rowLit2 (n m : Int) (W : World) {g : Nat} (hg : g = W.heap.size) : Calls Tryz.prog 57 #[.slice (some ⟨g, 0, none⟩) 2 2] (W.alloc (.cells #[.int .i64 n, .int .i64 m] 2)) fun e w' => ∃ A c, e = .returned (.slice A 2 c) ∧ 2 ≤ c ∧ Kd.C k61 w' A 2 [iV n, iV m] ∧ Below W.heap.size W w' := by
  subst hg
  have hC : Kd.C (Kd.int .i64) (W.alloc (.cells #[.int .i64 n, .int .i64 m] 2)) (some ⟨W.heap.size, 0, none⟩) 2 [n, m] := C_lit rfl (blk_new W _) (Reps.one rfl (Reps.one rfl (Reps.none _ _))) (show 2 ≤ 1000 by decide)
  refine (tacticianlaw02_row.calls 4 (some ⟨W.heap.size, 0, none⟩) 2 [n, m] [iV n, iV m] _ hC (Nat.le_refl _) (by simp [tacticianlaw02_row.f, tacticianlaw02_row.l0, tacticianref01_Int.f, rd, iV, wrap64])).mono ?_
  rintro e w' ⟨v, rfl, hv, hb⟩
  obtain ⟨A, c, rfl, h1, h2⟩ := Kd.R_reads hv
  exact ⟨A, c, rfl, h1, h2, below_step (below_alloc (Below.refl _ _) _) hb⟩
theorem keyLit {W : World} (g : Nat) (h : W.heap[g]? = some (.cells #[.int .i64 1, .bool true] 36 (0, 0))) : Kd.C k36 W (some ⟨g, 0, none⟩) 1 [(⟨1, true⟩ : KK)] :=
  ⟨rfl, by decide, fun _ => ⟨_, rfl, fun j p hj => by
    have hj0 : j = 0 := by
      have := (List.getElem?_eq_some_iff.1 hj).1
      simpa using this
    subst hj0
    have hp : (⟨1, true⟩ : KK) = p := by simpa using hj
    subst hp
    exact ⟨[.int .i64 1, .bool true], rfl, ⟨[.int .i64 1], [.bool true], rfl, rfl, rfl⟩, fun i u hu => by
      rw [show 0 * (k36).sz + i = i by rw [Nat.zero_mul, Nat.zero_add], add_at, Nat.zero_add, blk_cell h]
      simpa using hu⟩⟩⟩
theorem keyLit2 (W : World) (x : Obj) : Kd.C k36 ((W.alloc x).alloc (.cells #[.int .i64 1, .bool true] 36)) (some ⟨W.heap.size + 1, 0, none⟩) 1 [(⟨1, true⟩ : KK)] := by
  have h := blk_new (W.alloc x) (.cells #[.int .i64 1, .bool true] 36)
  rw [show (W.alloc x).heap.size = W.heap.size + 1 by simp] at h
  exact keyLit _ h
theorem canR_is {l r : List (List V)} (h1 : r.Perm l) (h2 : r.Pairwise fun a b => leOf cfR a b = true) : canR l = r := (cfR_tc.unique h1 h2).symm
theorem sortK_is (ks : List (Int × Bool)) {l r : List (List V)} (h1 : r.Perm l) (h2 : r.Pairwise fun a b => leOf (cfK ks) a b = true) : sortBy (cfK ks) l = r := ((cfK_tc ks).unique h1 h2).symm
theorem aw_HX : rows_Both.f [[iV 1], [iV 1], [iV 2]] [[iV 1], [iV 3]] true = some ([[iV 1]], 0) := by
  unfold rows_Both.f
  rw [if_pos (by decide +kernel), if_pos (by decide +kernel), if_pos rfl, canR_is (r := [[iV 1]]) (by decide +kernel) (by decide +kernel)]
theorem aw_HY : rows_Minus.f [[iV 1], [iV 1], [iV 2]] [[iV 1], [iV 3]] true = some ([[iV 1], [iV 2]], 0) := by
  unfold rows_Minus.f
  rw [if_pos (by decide +kernel), if_pos (by decide +kernel), if_pos rfl, canR_is (r := [[iV 1], [iV 2]]) (by decide +kernel) (by decide +kernel)]
theorem aw_one : oneR [[iV 1], [iV 1], [iV 2]] = [[iV 1], [iV 2]] := by
  unfold oneR
  rw [canR_is (r := [[iV 1], [iV 1], [iV 2]]) (by decide +kernel) (by decide +kernel)]
  decide +kernel
theorem aw_HZ : rows_Minus.f [[iV 1], [iV 1], [iV 2]] [[iV 1], [iV 3]] false = some ([[iV 2]], 0) := by
  unfold rows_Minus.f
  rw [if_pos (by decide +kernel), if_pos (by decide +kernel), if_neg (by decide), aw_one, canR_is (r := [[iV 2]]) (by decide +kernel) (by decide +kernel)]
theorem aw_HOO : rows_Ordered.f [[iV 1, iV 2], [iV 2, iV 1], [iV 1, iV 1]] [(⟨1, true⟩ : KK)] = some ([[iV 1, iV 2], [iV 1, iV 1], [iV 2, iV 1]], 0) := by
  unfold rows_Ordered.f
  rw [if_pos (by decide +kernel), if_pos (by decide +kernel), if_pos (by decide +kernel), sortK_is _ (r := [[iV 1, iV 2], [iV 1, iV 1], [iV 2, iV 1]]) (by decide +kernel) (by decide +kernel)]
theorem aw_S : rows_String.f [[iV 1, iV 2], []] = some (⟨#[40, 49, 44, 32, 50, 41, 10, 40, 41, 10]⟩, 0) := by
  unfold rows_String.f
  rw [if_pos (by decide +kernel), if_pos (by decide +kernel), if_pos (by decide +kernel)]
  decide +kernel
def tacticianlaw02_awake.f : Option Bool := some true
set_option maxRecDepth 100000 in
set_option maxHeartbeats 8000000 in
theorem tacticianlaw02_awake.calls (r : Bool) (w : World) (hL_ : Laid w) (h : tacticianlaw02_awake.f = some r) :
  Calls Tryz.prog 18 #[] w fun e w' => e = .returned (.bool r) ∧ Below w.heap.size w w' := by
 obtain rfl := Option.some.inj h
 clear h
 have HLD := Aside0.mk hL_
 clear hL_
 have hu36 := Tryz.underlying36
 have HB := Aside0.mk (Below.refl w.heap.size w)
 go_enter Tryz.func18, Tryz.ntmps18
 go_wp2_with fail
 refine (rowLit1 1 (w) (by first | rfl | (go_simp; done) | (go_simp; rfl))).mono ?_
 rintro e w1 ⟨A1, c1, rfl, hl1, hC1, hb1⟩
 have HT := Aside0.mk (below_step HB.out hb1)
 clear HB
 have HB := HT
 clear HT
 have HC1 := Aside0.mk hC1
 have HL1 := Aside0.mk hl1
 clear hC1 hl1 hb1
 go_wp2_with fail
 refine (rowLit1 1 (w1) (by first | rfl | (go_simp; done) | (go_simp; rfl))).mono ?_
 rintro e w2 ⟨A2, c2, rfl, hl2, hC2, hb2⟩
 have HC1_ := Aside0.mk (Kd.C_below HC1.out hb2)
 clear HC1
 have HC1 := HC1_
 clear HC1_
 have HT := Aside0.mk (below_step HB.out hb2)
 clear HB
 have HB := HT
 clear HT
 have HC2 := Aside0.mk hC2
 have HL2 := Aside0.mk hl2
 clear hC2 hl2 hb2
 go_wp2_with fail
 refine (rowLit1 2 (w2) (by first | rfl | (go_simp; done) | (go_simp; rfl))).mono ?_
 rintro e w3 ⟨A3, c3, rfl, hl3, hC3, hb3⟩
 have HC1_ := Aside0.mk (Kd.C_below HC1.out hb3)
 clear HC1
 have HC1 := HC1_
 clear HC1_
 have HC2_ := Aside0.mk (Kd.C_below HC2.out hb3)
 clear HC2
 have HC2 := HC2_
 clear HC2_
 have HT := Aside0.mk (below_step HB.out hb3)
 clear HB
 have HB := HT
 clear HT
 have HC3 := Aside0.mk hC3
 have HL3 := Aside0.mk hl3
 clear hC3 hl3 hb3
 have HC1_ := Aside0.mk (Kd.C_below HC1.out (below_alloc (Below.refl _ _) (.cells #[.slice A1 1 c1, .slice A2 1 c2, .slice A3 1 c3] 40)))
 clear HC1
 have HC1 := HC1_
 clear HC1_
 have HC2_ := Aside0.mk (Kd.C_below HC2.out (below_alloc (Below.refl _ _) (.cells #[.slice A1 1 c1, .slice A2 1 c2, .slice A3 1 c3] 40)))
 clear HC2
 have HC2 := HC2_
 clear HC2_
 have HC3_ := Aside0.mk (Kd.C_below HC3.out (below_alloc (Below.refl _ _) (.cells #[.slice A1 1 c1, .slice A2 1 c2, .slice A3 1 c3] 40)))
 clear HC3
 have HC3 := HC3_
 clear HC3_
 have HA : Aside0 (Kd.C (Kd.slice 61 k61) (w3.alloc (.cells #[.slice A1 1 c1, .slice A2 1 c2, .slice A3 1 c3] 40)) _ 3 [[iV 1], [iV 1], [iV 2]]) := ⟨C_lit rfl (blk_new _ _) (Reps.one (rowK HC1.out HL1.out) (Reps.one (rowK HC2.out HL2.out) (Reps.one (rowK HC3.out HL3.out) (Reps.none _ _)))) (show 3 ≤ 1000 by decide)⟩
 clear HC1 HL1
 clear HC2 HL2
 clear HC3 HL3
 have HT := Aside0.mk (below_alloc HB.out (.cells #[.slice A1 1 c1, .slice A2 1 c2, .slice A3 1 c3] 40))
 clear HB
 have HB := HT
 clear HT
 go_wp2_with fail
 refine (rowLit1 1 (w3.alloc (.cells #[.slice A1 1 c1, .slice A2 1 c2, .slice A3 1 c3] 40)) (by first | rfl | (go_simp; done) | (go_simp; rfl))).mono ?_
 rintro e w4 ⟨A4, c4, rfl, hl4, hC4, hb4⟩
 have HA_ := Aside0.mk (Kd.C_below HA.out hb4)
 clear HA
 have HA := HA_
 clear HA_
 have HT := Aside0.mk (below_step HB.out hb4)
 clear HB
 have HB := HT
 clear HT
 have HC4 := Aside0.mk hC4
 have HL4 := Aside0.mk hl4
 clear hC4 hl4 hb4
 go_wp2_with fail
 refine (rowLit1 3 (w4) (by first | rfl | (go_simp; done) | (go_simp; rfl))).mono ?_
 rintro e w5 ⟨A5, c5, rfl, hl5, hC5, hb5⟩
 have HA_ := Aside0.mk (Kd.C_below HA.out hb5)
 clear HA
 have HA := HA_
 clear HA_
 have HC4_ := Aside0.mk (Kd.C_below HC4.out hb5)
 clear HC4
 have HC4 := HC4_
 clear HC4_
 have HT := Aside0.mk (below_step HB.out hb5)
 clear HB
 have HB := HT
 clear HT
 have HC5 := Aside0.mk hC5
 have HL5 := Aside0.mk hl5
 clear hC5 hl5 hb5
 have HA_ := Aside0.mk (Kd.C_below HA.out (below_alloc (Below.refl _ _) (.cells #[.slice A4 1 c4, .slice A5 1 c5] 40)))
 clear HA
 have HA := HA_
 clear HA_
 have HC4_ := Aside0.mk (Kd.C_below HC4.out (below_alloc (Below.refl _ _) (.cells #[.slice A4 1 c4, .slice A5 1 c5] 40)))
 clear HC4
 have HC4 := HC4_
 clear HC4_
 have HC5_ := Aside0.mk (Kd.C_below HC5.out (below_alloc (Below.refl _ _) (.cells #[.slice A4 1 c4, .slice A5 1 c5] 40)))
 clear HC5
 have HC5 := HC5_
 clear HC5_
 have HBB : Aside0 (Kd.C (Kd.slice 61 k61) (w5.alloc (.cells #[.slice A4 1 c4, .slice A5 1 c5] 40)) _ 2 [[iV 1], [iV 3]]) := ⟨C_lit rfl (blk_new _ _) (Reps.one (rowK HC4.out HL4.out) (Reps.one (rowK HC5.out HL5.out) (Reps.none _ _))) (show 2 ≤ 1000 by decide)⟩
 clear HC4 HL4
 clear HC5 HL5
 have HT := Aside0.mk (below_alloc HB.out (.cells #[.slice A4 1 c4, .slice A5 1 c5] 40))
 clear HB
 have HB := HT
 clear HT
 go_wp2_with fail
 refine (rows_Both.calls _ _ [[iV 1], [iV 1], [iV 2]] _ _ [[iV 1], [iV 3]] true [[iV 1]] 0 _ HA.out (Nat.le_refl _) HBB.out (Nat.le_refl _) (HLD.out.below HB.out) (by exact aw_HX)).mono ?_
 rintro e w6 ⟨v6, rfl, hv6, hb6⟩
 obtain ⟨A6, c6, rfl, hl6, hC6⟩ := Kd.S_reads hv6
 have HA_ := Aside0.mk (Kd.C_below HA.out hb6)
 clear HA
 have HA := HA_
 clear HA_
 have HBB_ := Aside0.mk (Kd.C_below HBB.out hb6)
 clear HBB
 have HBB := HBB_
 clear HBB_
 have HT := Aside0.mk (below_step HB.out hb6)
 clear HB
 have HB := HT
 clear HT
 have HX := Aside0.mk hC6
 have LHX := Aside0.mk hl6
 clear hC6 hl6 hv6 hb6
 go_wp2_with fail
 refine (rows_Minus.calls _ _ [[iV 1], [iV 1], [iV 2]] _ _ [[iV 1], [iV 3]] true [[iV 1], [iV 2]] 0 _ HA.out (Nat.le_refl _) HBB.out (Nat.le_refl _) (HLD.out.below HB.out) (by exact aw_HY)).mono ?_
 rintro e w7 ⟨v7, rfl, hv7, hb7⟩
 obtain ⟨A7, c7, rfl, hl7, hC7⟩ := Kd.S_reads hv7
 have HA_ := Aside0.mk (Kd.C_below HA.out hb7)
 clear HA
 have HA := HA_
 clear HA_
 have HBB_ := Aside0.mk (Kd.C_below HBB.out hb7)
 clear HBB
 have HBB := HBB_
 clear HBB_
 have HX_ := Aside0.mk (Kd.C_below HX.out hb7)
 clear HX
 have HX := HX_
 clear HX_
 have HT := Aside0.mk (below_step HB.out hb7)
 clear HB
 have HB := HT
 clear HT
 have HY := Aside0.mk hC7
 have LHY := Aside0.mk hl7
 clear hC7 hl7 hv7 hb7
 go_wp2_with fail
 refine (rows_Minus.calls _ _ [[iV 1], [iV 1], [iV 2]] _ _ [[iV 1], [iV 3]] false [[iV 2]] 0 _ HA.out (Nat.le_refl _) HBB.out (Nat.le_refl _) (HLD.out.below HB.out) (by exact aw_HZ)).mono ?_
 rintro e w8 ⟨v8, rfl, hv8, hb8⟩
 obtain ⟨A8, c8, rfl, hl8, hC8⟩ := Kd.S_reads hv8
 have HA_ := Aside0.mk (Kd.C_below HA.out hb8)
 clear HA
 have HA := HA_
 clear HA_
 have HBB_ := Aside0.mk (Kd.C_below HBB.out hb8)
 clear HBB
 have HBB := HBB_
 clear HBB_
 have HX_ := Aside0.mk (Kd.C_below HX.out hb8)
 clear HX
 have HX := HX_
 clear HX_
 have HY_ := Aside0.mk (Kd.C_below HY.out hb8)
 clear HY
 have HY := HY_
 clear HY_
 have HT := Aside0.mk (below_step HB.out hb8)
 clear HB
 have HB := HT
 clear HT
 have HZ := Aside0.mk hC8
 have LHZ := Aside0.mk hl8
 clear hC8 hl8 hv8 hb8
 clear HA HBB
 go_wp2_with fail
 refine (rowLit2 1 2 (w8) (by first | rfl | (go_simp; done) | (go_simp; rfl))).mono ?_
 rintro e w9 ⟨A9, c9, rfl, hl9, hC9, hb9⟩
 have HX_ := Aside0.mk (Kd.C_below HX.out hb9)
 clear HX
 have HX := HX_
 clear HX_
 have HY_ := Aside0.mk (Kd.C_below HY.out hb9)
 clear HY
 have HY := HY_
 clear HY_
 have HZ_ := Aside0.mk (Kd.C_below HZ.out hb9)
 clear HZ
 have HZ := HZ_
 clear HZ_
 have HT := Aside0.mk (below_step HB.out hb9)
 clear HB
 have HB := HT
 clear HT
 have HC9 := Aside0.mk hC9
 have HL9 := Aside0.mk hl9
 clear hC9 hl9 hb9
 go_wp2_with fail
 refine (rowLit2 2 1 (w9) (by first | rfl | (go_simp; done) | (go_simp; rfl))).mono ?_
 rintro e w10 ⟨A10, c10, rfl, hl10, hC10, hb10⟩
 have HX_ := Aside0.mk (Kd.C_below HX.out hb10)
 clear HX
 have HX := HX_
 clear HX_
 have HY_ := Aside0.mk (Kd.C_below HY.out hb10)
 clear HY
 have HY := HY_
 clear HY_
 have HZ_ := Aside0.mk (Kd.C_below HZ.out hb10)
 clear HZ
 have HZ := HZ_
 clear HZ_
 have HC9_ := Aside0.mk (Kd.C_below HC9.out hb10)
 clear HC9
 have HC9 := HC9_
 clear HC9_
 have HT := Aside0.mk (below_step HB.out hb10)
 clear HB
 have HB := HT
 clear HT
 have HC10 := Aside0.mk hC10
 have HL10 := Aside0.mk hl10
 clear hC10 hl10 hb10
 go_wp2_with fail
 refine (rowLit2 1 1 (w10) (by first | rfl | (go_simp; done) | (go_simp; rfl))).mono ?_
 rintro e w11 ⟨A11, c11, rfl, hl11, hC11, hb11⟩
 have HX_ := Aside0.mk (Kd.C_below HX.out hb11)
 clear HX
 have HX := HX_
 clear HX_
 have HY_ := Aside0.mk (Kd.C_below HY.out hb11)
 clear HY
 have HY := HY_
 clear HY_
 have HZ_ := Aside0.mk (Kd.C_below HZ.out hb11)
 clear HZ
 have HZ := HZ_
 clear HZ_
 have HC9_ := Aside0.mk (Kd.C_below HC9.out hb11)
 clear HC9
 have HC9 := HC9_
 clear HC9_
 have HC10_ := Aside0.mk (Kd.C_below HC10.out hb11)
 clear HC10
 have HC10 := HC10_
 clear HC10_
 have HT := Aside0.mk (below_step HB.out hb11)
 clear HB
 have HB := HT
 clear HT
 have HC11 := Aside0.mk hC11
 have HL11 := Aside0.mk hl11
 clear hC11 hl11 hb11
 have HX_ := Aside0.mk (Kd.C_below HX.out (below_alloc (Below.refl _ _) (.cells #[.slice A9 2 c9, .slice A10 2 c10, .slice A11 2 c11] 40)))
 clear HX
 have HX := HX_
 clear HX_
 have HY_ := Aside0.mk (Kd.C_below HY.out (below_alloc (Below.refl _ _) (.cells #[.slice A9 2 c9, .slice A10 2 c10, .slice A11 2 c11] 40)))
 clear HY
 have HY := HY_
 clear HY_
 have HZ_ := Aside0.mk (Kd.C_below HZ.out (below_alloc (Below.refl _ _) (.cells #[.slice A9 2 c9, .slice A10 2 c10, .slice A11 2 c11] 40)))
 clear HZ
 have HZ := HZ_
 clear HZ_
 have HC9_ := Aside0.mk (Kd.C_below HC9.out (below_alloc (Below.refl _ _) (.cells #[.slice A9 2 c9, .slice A10 2 c10, .slice A11 2 c11] 40)))
 clear HC9
 have HC9 := HC9_
 clear HC9_
 have HC10_ := Aside0.mk (Kd.C_below HC10.out (below_alloc (Below.refl _ _) (.cells #[.slice A9 2 c9, .slice A10 2 c10, .slice A11 2 c11] 40)))
 clear HC10
 have HC10 := HC10_
 clear HC10_
 have HC11_ := Aside0.mk (Kd.C_below HC11.out (below_alloc (Below.refl _ _) (.cells #[.slice A9 2 c9, .slice A10 2 c10, .slice A11 2 c11] 40)))
 clear HC11
 have HC11 := HC11_
 clear HC11_
 have HO0 : Aside0 (Kd.C (Kd.slice 61 k61) (w11.alloc (.cells #[.slice A9 2 c9, .slice A10 2 c10, .slice A11 2 c11] 40)) _ 3 [[iV 1, iV 2], [iV 2, iV 1], [iV 1, iV 1]]) := ⟨C_lit rfl (blk_new _ _) (Reps.one (rowK HC9.out HL9.out) (Reps.one (rowK HC10.out HL10.out) (Reps.one (rowK HC11.out HL11.out) (Reps.none _ _)))) (show 3 ≤ 1000 by decide)⟩
 clear HC9 HL9
 clear HC10 HL10
 clear HC11 HL11
 have HT := Aside0.mk (below_alloc HB.out (.cells #[.slice A9 2 c9, .slice A10 2 c10, .slice A11 2 c11] 40))
 clear HB
 have HB := HT
 clear HT
 go_wp2_with fail
 have HX_ := Aside0.mk (Kd.C_below HX.out (below_alloc (Below.refl _ _) (.cells #[.int .i64 1, .bool true] 36)))
 clear HX
 have HX := HX_
 clear HX_
 have HY_ := Aside0.mk (Kd.C_below HY.out (below_alloc (Below.refl _ _) (.cells #[.int .i64 1, .bool true] 36)))
 clear HY
 have HY := HY_
 clear HY_
 have HZ_ := Aside0.mk (Kd.C_below HZ.out (below_alloc (Below.refl _ _) (.cells #[.int .i64 1, .bool true] 36)))
 clear HZ
 have HZ := HZ_
 clear HZ_
 have HO0_ := Aside0.mk (Kd.C_below HO0.out (below_alloc (Below.refl _ _) (.cells #[.int .i64 1, .bool true] 36)))
 clear HO0
 have HO0 := HO0_
 clear HO0_
 have HT := Aside0.mk (below_alloc HB.out (.cells #[.int .i64 1, .bool true] 36))
 clear HB
 have HB := HT
 clear HT
 have HKY : Aside0 (Kd.C k36 ((w11.alloc (.cells #[.slice A9 2 c9, .slice A10 2 c10, .slice A11 2 c11] 40)).alloc (.cells #[.int .i64 1, .bool true] 36)) (some ⟨w11.heap.size + 1, 0, none⟩) 1 [(⟨1, true⟩ : KK)]) := ⟨keyLit2 _ _⟩
 refine (rows_Ordered.calls _ _ [[iV 1, iV 2], [iV 2, iV 1], [iV 1, iV 1]] _ _ [(⟨1, true⟩ : KK)] [[iV 1, iV 2], [iV 1, iV 1], [iV 2, iV 1]] 0 _ HO0.out (Nat.le_refl _) HKY.out (Nat.le_refl _) (by exact aw_HOO)).mono ?_
 rintro e w12 ⟨v12, rfl, hv12, hb12⟩
 obtain ⟨A12, c12, rfl, hl12, hC12⟩ := Kd.S_reads hv12
 clear HO0 HKY
 have HX_ := Aside0.mk (Kd.C_below HX.out hb12)
 clear HX
 have HX := HX_
 clear HX_
 have HY_ := Aside0.mk (Kd.C_below HY.out hb12)
 clear HY
 have HY := HY_
 clear HY_
 have HZ_ := Aside0.mk (Kd.C_below HZ.out hb12)
 clear HZ
 have HZ := HZ_
 clear HZ_
 have HT := Aside0.mk (below_step HB.out hb12)
 clear HB
 have HB := HT
 clear HT
 have HOO := Aside0.mk hC12
 have LHOO := Aside0.mk hl12
 clear hC12 hl12 hv12 hb12
 go_wp2_with fail
 refine (rowLit2 1 2 (w12) (by first | rfl | (go_simp; done) | (go_simp; rfl))).mono ?_
 rintro e w13 ⟨A13, c13, rfl, hl13, hC13, hb13⟩
 have HX_ := Aside0.mk (Kd.C_below HX.out hb13)
 clear HX
 have HX := HX_
 clear HX_
 have HY_ := Aside0.mk (Kd.C_below HY.out hb13)
 clear HY
 have HY := HY_
 clear HY_
 have HZ_ := Aside0.mk (Kd.C_below HZ.out hb13)
 clear HZ
 have HZ := HZ_
 clear HZ_
 have HOO_ := Aside0.mk (Kd.C_below HOO.out hb13)
 clear HOO
 have HOO := HOO_
 clear HOO_
 have HT := Aside0.mk (below_step HB.out hb13)
 clear HB
 have HB := HT
 clear HT
 have HC13 := Aside0.mk hC13
 have HL13 := Aside0.mk hl13
 clear hC13 hl13 hb13
 have HX_ := Aside0.mk (Kd.C_below HX.out (below_alloc (Below.refl _ _) (.cells #[.slice A13 2 c13, .slice none 0 0] 40)))
 clear HX
 have HX := HX_
 clear HX_
 have HY_ := Aside0.mk (Kd.C_below HY.out (below_alloc (Below.refl _ _) (.cells #[.slice A13 2 c13, .slice none 0 0] 40)))
 clear HY
 have HY := HY_
 clear HY_
 have HZ_ := Aside0.mk (Kd.C_below HZ.out (below_alloc (Below.refl _ _) (.cells #[.slice A13 2 c13, .slice none 0 0] 40)))
 clear HZ
 have HZ := HZ_
 clear HZ_
 have HOO_ := Aside0.mk (Kd.C_below HOO.out (below_alloc (Below.refl _ _) (.cells #[.slice A13 2 c13, .slice none 0 0] 40)))
 clear HOO
 have HOO := HOO_
 clear HOO_
 have HC13_ := Aside0.mk (Kd.C_below HC13.out (below_alloc (Below.refl _ _) (.cells #[.slice A13 2 c13, .slice none 0 0] 40)))
 clear HC13
 have HC13 := HC13_
 clear HC13_
 have HS0 : Aside0 (Kd.C (Kd.slice 61 k61) (w13.alloc (.cells #[.slice A13 2 c13, .slice none 0 0] 40)) _ 2 [[iV 1, iV 2], []]) := ⟨C_lit rfl (blk_new _ _) (Reps.one (rowK HC13.out HL13.out) (Reps.one rowKnil (Reps.none _ _))) (show 2 ≤ 1000 by decide)⟩
 clear HC13 HL13
 have HT := Aside0.mk (below_alloc HB.out (.cells #[.slice A13 2 c13, .slice none 0 0] 40))
 clear HB
 have HB := HT
 clear HT
 go_wp2_with fail
 refine (rows_String.calls _ _ [[iV 1, iV 2], []] ⟨#[40, 49, 44, 32, 50, 41, 10, 40, 41, 10]⟩ 0 _ HS0.out (Nat.le_refl _) (HLD.out.below HB.out) (by exact aw_S)).mono ?_
 rintro e w14 ⟨rfl, hb14⟩
 clear HS0
 have HX_ := Aside0.mk (Kd.C_below HX.out hb14)
 clear HX
 have HX := HX_
 clear HX_
 have HY_ := Aside0.mk (Kd.C_below HY.out hb14)
 clear HY
 have HY := HY_
 clear HY_
 have HZ_ := Aside0.mk (Kd.C_below HZ.out hb14)
 clear HZ
 have HZ := HZ_
 clear HZ_
 have HOO_ := Aside0.mk (Kd.C_below HOO.out hb14)
 clear HOO
 have HOO := HOO_
 clear HOO_
 have HT := Aside0.mk (below_step HB.out hb14)
 clear HB hb14
 have HB := HT
 clear HT
 go_wp2_with fail
 refine (rowLit1 1 (w14) (by first | rfl | (go_simp; done) | (go_simp; rfl))).mono ?_
 rintro e w15 ⟨A15, c15, rfl, hl15, hC15, hb15⟩
 have HX_ := Aside0.mk (Kd.C_below HX.out hb15)
 clear HX
 have HX := HX_
 clear HX_
 have HY_ := Aside0.mk (Kd.C_below HY.out hb15)
 clear HY
 have HY := HY_
 clear HY_
 have HZ_ := Aside0.mk (Kd.C_below HZ.out hb15)
 clear HZ
 have HZ := HZ_
 clear HZ_
 have HOO_ := Aside0.mk (Kd.C_below HOO.out hb15)
 clear HOO
 have HOO := HOO_
 clear HOO_
 have HT := Aside0.mk (below_step HB.out hb15)
 clear HB
 have HB := HT
 clear HT
 have HC15 := Aside0.mk hC15
 have HL15 := Aside0.mk hl15
 clear hC15 hl15 hb15
 have HX_ := Aside0.mk (Kd.C_below HX.out (below_alloc (Below.refl _ _) (.cells #[.slice A15 1 c15] 40)))
 clear HX
 have HX := HX_
 clear HX_
 have HY_ := Aside0.mk (Kd.C_below HY.out (below_alloc (Below.refl _ _) (.cells #[.slice A15 1 c15] 40)))
 clear HY
 have HY := HY_
 clear HY_
 have HZ_ := Aside0.mk (Kd.C_below HZ.out (below_alloc (Below.refl _ _) (.cells #[.slice A15 1 c15] 40)))
 clear HZ
 have HZ := HZ_
 clear HZ_
 have HOO_ := Aside0.mk (Kd.C_below HOO.out (below_alloc (Below.refl _ _) (.cells #[.slice A15 1 c15] 40)))
 clear HOO
 have HOO := HOO_
 clear HOO_
 have HC15_ := Aside0.mk (Kd.C_below HC15.out (below_alloc (Below.refl _ _) (.cells #[.slice A15 1 c15] 40)))
 clear HC15
 have HC15 := HC15_
 clear HC15_
 have HQ : Aside0 (Kd.C (Kd.slice 61 k61) (w15.alloc (.cells #[.slice A15 1 c15] 40)) _ 1 [[iV 1]]) := ⟨C_lit rfl (blk_new _ _) (Reps.one (rowK HC15.out HL15.out) (Reps.none _ _)) (show 1 ≤ 1000 by decide)⟩
 clear HC15 HL15
 have HT := Aside0.mk (below_alloc HB.out (.cells #[.slice A15 1 c15] 40))
 clear HB
 have HB := HT
 clear HT
 go_wp2_with fail
 refine (tacticianref02_Equal.calls 20 _ _ [[iV 1]] _ _ [[iV 1]] true _ HX.out LHX.out HQ.out (Nat.le_refl _) (by decide +kernel)).mono ?_
 rintro e w16 ⟨rfl, hb16⟩
 replace hb16 := below_any hb16
 clear HQ
 have HX_ := Aside0.mk (Kd.C_below HX.out hb16)
 clear HX
 have HX := HX_
 clear HX_
 have HY_ := Aside0.mk (Kd.C_below HY.out hb16)
 clear HY
 have HY := HY_
 clear HY_
 have HZ_ := Aside0.mk (Kd.C_below HZ.out hb16)
 clear HZ
 have HZ := HZ_
 clear HZ_
 have HOO_ := Aside0.mk (Kd.C_below HOO.out hb16)
 clear HOO
 have HOO := HOO_
 clear HOO_
 have HT := Aside0.mk (below_step HB.out hb16)
 clear HB hb16
 have HB := HT
 clear HT
 clear HX LHX
 go_wp2_with fail
 refine (rowLit1 1 (w16) (by first | rfl | (go_simp; done) | (go_simp; rfl))).mono ?_
 rintro e w17 ⟨A17, c17, rfl, hl17, hC17, hb17⟩
 have HY_ := Aside0.mk (Kd.C_below HY.out hb17)
 clear HY
 have HY := HY_
 clear HY_
 have HZ_ := Aside0.mk (Kd.C_below HZ.out hb17)
 clear HZ
 have HZ := HZ_
 clear HZ_
 have HOO_ := Aside0.mk (Kd.C_below HOO.out hb17)
 clear HOO
 have HOO := HOO_
 clear HOO_
 have HT := Aside0.mk (below_step HB.out hb17)
 clear HB
 have HB := HT
 clear HT
 have HC17 := Aside0.mk hC17
 have HL17 := Aside0.mk hl17
 clear hC17 hl17 hb17
 go_wp2_with fail
 refine (rowLit1 2 (w17) (by first | rfl | (go_simp; done) | (go_simp; rfl))).mono ?_
 rintro e w18 ⟨A18, c18, rfl, hl18, hC18, hb18⟩
 have HY_ := Aside0.mk (Kd.C_below HY.out hb18)
 clear HY
 have HY := HY_
 clear HY_
 have HZ_ := Aside0.mk (Kd.C_below HZ.out hb18)
 clear HZ
 have HZ := HZ_
 clear HZ_
 have HOO_ := Aside0.mk (Kd.C_below HOO.out hb18)
 clear HOO
 have HOO := HOO_
 clear HOO_
 have HC17_ := Aside0.mk (Kd.C_below HC17.out hb18)
 clear HC17
 have HC17 := HC17_
 clear HC17_
 have HT := Aside0.mk (below_step HB.out hb18)
 clear HB
 have HB := HT
 clear HT
 have HC18 := Aside0.mk hC18
 have HL18 := Aside0.mk hl18
 clear hC18 hl18 hb18
 have HY_ := Aside0.mk (Kd.C_below HY.out (below_alloc (Below.refl _ _) (.cells #[.slice A17 1 c17, .slice A18 1 c18] 40)))
 clear HY
 have HY := HY_
 clear HY_
 have HZ_ := Aside0.mk (Kd.C_below HZ.out (below_alloc (Below.refl _ _) (.cells #[.slice A17 1 c17, .slice A18 1 c18] 40)))
 clear HZ
 have HZ := HZ_
 clear HZ_
 have HOO_ := Aside0.mk (Kd.C_below HOO.out (below_alloc (Below.refl _ _) (.cells #[.slice A17 1 c17, .slice A18 1 c18] 40)))
 clear HOO
 have HOO := HOO_
 clear HOO_
 have HC17_ := Aside0.mk (Kd.C_below HC17.out (below_alloc (Below.refl _ _) (.cells #[.slice A17 1 c17, .slice A18 1 c18] 40)))
 clear HC17
 have HC17 := HC17_
 clear HC17_
 have HC18_ := Aside0.mk (Kd.C_below HC18.out (below_alloc (Below.refl _ _) (.cells #[.slice A17 1 c17, .slice A18 1 c18] 40)))
 clear HC18
 have HC18 := HC18_
 clear HC18_
 have HQ : Aside0 (Kd.C (Kd.slice 61 k61) (w18.alloc (.cells #[.slice A17 1 c17, .slice A18 1 c18] 40)) _ 2 [[iV 1], [iV 2]]) := ⟨C_lit rfl (blk_new _ _) (Reps.one (rowK HC17.out HL17.out) (Reps.one (rowK HC18.out HL18.out) (Reps.none _ _))) (show 2 ≤ 1000 by decide)⟩
 clear HC17 HL17
 clear HC18 HL18
 have HT := Aside0.mk (below_alloc HB.out (.cells #[.slice A17 1 c17, .slice A18 1 c18] 40))
 clear HB
 have HB := HT
 clear HT
 go_wp2_with fail
 refine (tacticianref02_Equal.calls 20 _ _ [[iV 1], [iV 2]] _ _ [[iV 1], [iV 2]] true _ HY.out LHY.out HQ.out (Nat.le_refl _) (by decide +kernel)).mono ?_
 rintro e w19 ⟨rfl, hb19⟩
 replace hb19 := below_any hb19
 clear HQ
 have HY_ := Aside0.mk (Kd.C_below HY.out hb19)
 clear HY
 have HY := HY_
 clear HY_
 have HZ_ := Aside0.mk (Kd.C_below HZ.out hb19)
 clear HZ
 have HZ := HZ_
 clear HZ_
 have HOO_ := Aside0.mk (Kd.C_below HOO.out hb19)
 clear HOO
 have HOO := HOO_
 clear HOO_
 have HT := Aside0.mk (below_step HB.out hb19)
 clear HB hb19
 have HB := HT
 clear HT
 clear HY LHY
 go_wp2_with fail
 refine (rowLit1 2 (w19) (by first | rfl | (go_simp; done) | (go_simp; rfl))).mono ?_
 rintro e w20 ⟨A20, c20, rfl, hl20, hC20, hb20⟩
 have HZ_ := Aside0.mk (Kd.C_below HZ.out hb20)
 clear HZ
 have HZ := HZ_
 clear HZ_
 have HOO_ := Aside0.mk (Kd.C_below HOO.out hb20)
 clear HOO
 have HOO := HOO_
 clear HOO_
 have HT := Aside0.mk (below_step HB.out hb20)
 clear HB
 have HB := HT
 clear HT
 have HC20 := Aside0.mk hC20
 have HL20 := Aside0.mk hl20
 clear hC20 hl20 hb20
 have HZ_ := Aside0.mk (Kd.C_below HZ.out (below_alloc (Below.refl _ _) (.cells #[.slice A20 1 c20] 40)))
 clear HZ
 have HZ := HZ_
 clear HZ_
 have HOO_ := Aside0.mk (Kd.C_below HOO.out (below_alloc (Below.refl _ _) (.cells #[.slice A20 1 c20] 40)))
 clear HOO
 have HOO := HOO_
 clear HOO_
 have HC20_ := Aside0.mk (Kd.C_below HC20.out (below_alloc (Below.refl _ _) (.cells #[.slice A20 1 c20] 40)))
 clear HC20
 have HC20 := HC20_
 clear HC20_
 have HQ : Aside0 (Kd.C (Kd.slice 61 k61) (w20.alloc (.cells #[.slice A20 1 c20] 40)) _ 1 [[iV 2]]) := ⟨C_lit rfl (blk_new _ _) (Reps.one (rowK HC20.out HL20.out) (Reps.none _ _)) (show 1 ≤ 1000 by decide)⟩
 clear HC20 HL20
 have HT := Aside0.mk (below_alloc HB.out (.cells #[.slice A20 1 c20] 40))
 clear HB
 have HB := HT
 clear HT
 go_wp2_with fail
 refine (tacticianref02_Equal.calls 20 _ _ [[iV 2]] _ _ [[iV 2]] true _ HZ.out LHZ.out HQ.out (Nat.le_refl _) (by decide +kernel)).mono ?_
 rintro e w21 ⟨rfl, hb21⟩
 replace hb21 := below_any hb21
 clear HQ
 have HZ_ := Aside0.mk (Kd.C_below HZ.out hb21)
 clear HZ
 have HZ := HZ_
 clear HZ_
 have HOO_ := Aside0.mk (Kd.C_below HOO.out hb21)
 clear HOO
 have HOO := HOO_
 clear HOO_
 have HT := Aside0.mk (below_step HB.out hb21)
 clear HB hb21
 have HB := HT
 clear HT
 clear HZ LHZ
 go_wp2_with fail
 refine (rowLit2 1 2 (w21) (by first | rfl | (go_simp; done) | (go_simp; rfl))).mono ?_
 rintro e w22 ⟨A22, c22, rfl, hl22, hC22, hb22⟩
 have HOO_ := Aside0.mk (Kd.C_below HOO.out hb22)
 clear HOO
 have HOO := HOO_
 clear HOO_
 have HT := Aside0.mk (below_step HB.out hb22)
 clear HB
 have HB := HT
 clear HT
 have HC22 := Aside0.mk hC22
 have HL22 := Aside0.mk hl22
 clear hC22 hl22 hb22
 go_wp2_with fail
 refine (rowLit2 1 1 (w22) (by first | rfl | (go_simp; done) | (go_simp; rfl))).mono ?_
 rintro e w23 ⟨A23, c23, rfl, hl23, hC23, hb23⟩
 have HOO_ := Aside0.mk (Kd.C_below HOO.out hb23)
 clear HOO
 have HOO := HOO_
 clear HOO_
 have HC22_ := Aside0.mk (Kd.C_below HC22.out hb23)
 clear HC22
 have HC22 := HC22_
 clear HC22_
 have HT := Aside0.mk (below_step HB.out hb23)
 clear HB
 have HB := HT
 clear HT
 have HC23 := Aside0.mk hC23
 have HL23 := Aside0.mk hl23
 clear hC23 hl23 hb23
 go_wp2_with fail
 refine (rowLit2 2 1 (w23) (by first | rfl | (go_simp; done) | (go_simp; rfl))).mono ?_
 rintro e w24 ⟨A24, c24, rfl, hl24, hC24, hb24⟩
 have HOO_ := Aside0.mk (Kd.C_below HOO.out hb24)
 clear HOO
 have HOO := HOO_
 clear HOO_
 have HC22_ := Aside0.mk (Kd.C_below HC22.out hb24)
 clear HC22
 have HC22 := HC22_
 clear HC22_
 have HC23_ := Aside0.mk (Kd.C_below HC23.out hb24)
 clear HC23
 have HC23 := HC23_
 clear HC23_
 have HT := Aside0.mk (below_step HB.out hb24)
 clear HB
 have HB := HT
 clear HT
 have HC24 := Aside0.mk hC24
 have HL24 := Aside0.mk hl24
 clear hC24 hl24 hb24
 have HOO_ := Aside0.mk (Kd.C_below HOO.out (below_alloc (Below.refl _ _) (.cells #[.slice A22 2 c22, .slice A23 2 c23, .slice A24 2 c24] 40)))
 clear HOO
 have HOO := HOO_
 clear HOO_
 have HC22_ := Aside0.mk (Kd.C_below HC22.out (below_alloc (Below.refl _ _) (.cells #[.slice A22 2 c22, .slice A23 2 c23, .slice A24 2 c24] 40)))
 clear HC22
 have HC22 := HC22_
 clear HC22_
 have HC23_ := Aside0.mk (Kd.C_below HC23.out (below_alloc (Below.refl _ _) (.cells #[.slice A22 2 c22, .slice A23 2 c23, .slice A24 2 c24] 40)))
 clear HC23
 have HC23 := HC23_
 clear HC23_
 have HC24_ := Aside0.mk (Kd.C_below HC24.out (below_alloc (Below.refl _ _) (.cells #[.slice A22 2 c22, .slice A23 2 c23, .slice A24 2 c24] 40)))
 clear HC24
 have HC24 := HC24_
 clear HC24_
 have HQ : Aside0 (Kd.C (Kd.slice 61 k61) (w24.alloc (.cells #[.slice A22 2 c22, .slice A23 2 c23, .slice A24 2 c24] 40)) _ 3 [[iV 1, iV 2], [iV 1, iV 1], [iV 2, iV 1]]) := ⟨C_lit rfl (blk_new _ _) (Reps.one (rowK HC22.out HL22.out) (Reps.one (rowK HC23.out HL23.out) (Reps.one (rowK HC24.out HL24.out) (Reps.none _ _)))) (show 3 ≤ 1000 by decide)⟩
 clear HC22 HL22
 clear HC23 HL23
 clear HC24 HL24
 have HT := Aside0.mk (below_alloc HB.out (.cells #[.slice A22 2 c22, .slice A23 2 c23, .slice A24 2 c24] 40))
 clear HB
 have HB := HT
 clear HT
 go_wp2_with fail
 refine (tacticianref02_Equal.calls 20 _ _ [[iV 1, iV 2], [iV 1, iV 1], [iV 2, iV 1]] _ _ [[iV 1, iV 2], [iV 1, iV 1], [iV 2, iV 1]] true _ HOO.out LHOO.out HQ.out (Nat.le_refl _) (by decide +kernel)).mono ?_
 rintro e w25 ⟨rfl, hb25⟩
 replace hb25 := below_any hb25
 clear HQ
 have HOO_ := Aside0.mk (Kd.C_below HOO.out hb25)
 clear HOO
 have HOO := HOO_
 clear HOO_
 have HT := Aside0.mk (below_step HB.out hb25)
 clear HB hb25
 have HB := HT
 clear HT
 clear HOO LHOO
 go_wp2
 go_ret
 exact ⟨rfl, HB.out⟩
end
end Go.Proofs.YtmhobbdedmjmnaaGreatDoor.Q
end
section
/- Each function reached is shown to return what the plain function beside it computes, wherever that is defined (written by a program of ours for this seat). -/
namespace Go.Proofs.YtmhobbdedmjmnaaGreatDoor.Q
open Go.RowKit Go.Proofs.YtmhobbdedmjmnaaGreatDoorW.PrintWords Go.Proofs.YtmhobbdedmjmnaaGreatDoorW.PrintLast Go.Proofs.YtmhobbdedmjmnaaGreatDoorW.PrintMore
attribute [local go_sem] max2_int min2_int max_two min_two max_three min_three max_four min_four   -- for this text's walks alone
set_option linter.unusedVariables false
set_option linter.unusedSimpArgs false
mutual
def tacticianref02_Places.l0 : Nat → List (List (S61)) → List Int → Int → Option (Bool)
  | 0, _, _, _ => none
  | k + 1, x0, x1, x5 => if x5 < (x0.length : Int) then (tacticianref02_Places.l1 k x0 x1 x5 0) else (some true)
def tacticianref02_Places.l1 : Nat → List (List (S61)) → List Int → Int → Int → Option (Bool)
  | 0, _, _, _, _ => none
  | k + 1, x0, x1, x5, x6 => if x6 < (x1.length : Int) then (if 0 ≤ x6 then (if (rd x1 x6) < 0 then (some false) else (if 0 ≤ x5 then (if x5 < (x0.length : Int) then (if (rd x1 x6) ≥ ((rd_L3 x0 x5).length : Int) then (some false) else (tacticianref02_Places.l1 k x0 x1 x5 (wrap64 (x6 + 1)))) else (none)) else (none))) else (none)) else (tacticianref02_Places.l0 k x0 x1 (wrap64 (x5 + 1)))
end
def tacticianref02_Places.f (k : Nat) (l0 : List (List (S61))) (l1 : List Int) : Option (Bool) := tacticianref02_Places.l0 k l0 l1 0
set_option maxHeartbeats 8000000 in
set_option maxRecDepth 100000 in
theorem tacticianref02_Places.calls (k : Nat) (A0 : Option Addr) (c0 : Nat) (l0 : List (List (S61))) (A1 : Option Addr) (c1 : Nat) (l1 : List Int) (r : Bool) (w : World) (hr0 : Kd.C (Kd.slice 61 k61) w A0 l0.length l0) (hc0 : l0.length ≤ c0) (hr1 : Kd.C (Kd.int .i64) w A1 l1.length l1) (hc1 : l1.length ≤ c1) (h : tacticianref02_Places.f k l0 l1 = some r) :
  Calls Tryz.prog 23 #[.slice A0 l0.length c0, .slice A1 l1.length c1] w fun e w' => e = .returned (.bool r) ∧ Drawn0 w w' := by
 have HR0 := Aside0.mk hr0
 have HC0 := Aside0.mk hc0
 clear hr0 hc0
 have HR1 := Aside0.mk hr1
 have HC1 := Aside0.mk hc1
 clear hr1 hc1
 have H : (tacticianref02_Places.l0 k l0 l1 0) = some r := h
 clear h
 have H' := Aside0.mk H
 clear H
 go_enter Tryz.func23, Tryz.ntmps23
 go_wp2
 repeat (go_quiet (fail); try go_wp2)
 go_loopg [5] k (fun kq v5 w' => ∃ (x5_1 : Int), v5 = .int .i64 x5_1 ∧ Aside0 (tacticianref02_Places.l0 kq l0 l1 x5_1 = some r) ∧ Aside0 (kq ≤ k) ∧ Drawn0 w w')
 case atStart => exact ⟨(0), (by first | rfl | (simp; done) | (simp [*]; done)), H', ⟨Nat.le_refl _⟩, by repeat (first | exact Drawn0.refl _ | apply Drawn0.step)⟩
 case round =>
  clear H'
  try clear c1
  try clear c2
  try clear p2
  obtain ⟨x5_1, rfl, HA, HK1, ⟨m1, rfl⟩⟩ := hrel
  cases gk with
  | zero => exact absurd HA.out (by simp [tacticianref02_Places.l0])
  | succ k1 =>
   have H := HA.out
   clear HA
   simp only [tacticianref02_Places.l0] at H
   by_cases c3 : x5_1 < (l0.length : Int)
   ·rw [if_pos c3] at H
    have c3b0 : decide (x5_1 < (l0.length : Int)) = true := decide_eq_true c3
    clear c3
    have H' := Aside0.mk H
    clear H
    go_wp2
    repeat (go_quiet (fail); try go_wp2)
    go_loopg [6] k1 (fun kq v6 w' => ∃ (x6_2 : Int), v6 = .int .i64 x6_2 ∧ Aside0 (tacticianref02_Places.l1 kq l0 l1 x5_1 x6_2 = some r) ∧ Aside0 (kq ≤ k1) ∧ Drawn0 w w')
    case atStart => exact ⟨(0), (by first | rfl | (simp; done) | (simp [*]; done)), H', ⟨Nat.le_refl _⟩, by repeat (first | exact Drawn0.refl _ | apply Drawn0.step)⟩
    case round =>
     clear H'
     try clear c1
     try clear c2
     try clear p2
     try clear c3
     try clear c3b0
     try clear p2
     obtain ⟨x6_2, rfl, HA, HK2, ⟨m2, rfl⟩⟩ := hrel
     cases gk with
     | zero => exact absurd HA.out (by simp [tacticianref02_Places.l1])
     | succ k2 =>
      have H := HA.out
      clear HA
      simp only [tacticianref02_Places.l1] at H
      by_cases c4 : x6_2 < (l1.length : Int)
      ·rw [if_pos c4] at H
       have c4b0 : decide (x6_2 < (l1.length : Int)) = true := decide_eq_true c4
       clear c4
       by_cases c5 : 0 ≤ x6_2
       ·rw [if_pos c5] at H
        have c5b0 : decide (0 ≤ x6_2) = true := decide_eq_true c5
        clear c5
        by_cases c6 : (rd l1 x6_2) < 0
        ·rw [if_pos c6] at H
         have c6b0 : decide ((rd l1 x6_2) < 0) = true := decide_eq_true c6
         clear c6
         obtain rfl := Option.some.inj H
         have p299 : 0 ≤ (x6_2 : Int) := of_decide_eq_true (by first | (with_reducible assumption) | assumption)
         have q299 : x6_2 < (l1.length : Int) := of_decide_eq_true (by first | (with_reducible assumption) | assumption)
         obtain ⟨ad299, e299, hx299_0⟩ := Kd.at_int HR1.out x6_2 p299 q299
         cases e299
         replace p299 := eq_true p299
         replace q299 := eq_true q299
         go_wp2
         repeat (go_quiet (fail); try go_wp2)
         go_ret
         exact ⟨by first | rfl | (simp; done) | (simp [*]; done), by repeat (first | exact Drawn0.refl _ | apply Drawn0.step)⟩
        ·rw [if_neg c6] at H
         have c6b0 : decide ((rd l1 x6_2) < 0) = false := decide_eq_false c6
         clear c6
         by_cases c7 : 0 ≤ x5_1
         ·rw [if_pos c7] at H
          have c7b0 : decide (0 ≤ x5_1) = true := decide_eq_true c7
          clear c7
          by_cases c8 : x5_1 < (l0.length : Int)
          ·rw [if_pos c8] at H
           have c8b0 : decide (x5_1 < (l0.length : Int)) = true := decide_eq_true c8
           clear c8
           by_cases c9 : (rd l1 x6_2) ≥ ((rd_L3 l0 x5_1).length : Int)
           ·rw [if_pos c9] at H
            have c9b0 : decide (((rd_L3 l0 x5_1).length : Int) ≤ (rd l1 x6_2)) = true := decide_eq_true c9
            clear c9
            obtain rfl := Option.some.inj H
            have p299 : 0 ≤ (x6_2 : Int) := of_decide_eq_true (by first | (with_reducible assumption) | assumption)
            have q299 : x6_2 < (l1.length : Int) := of_decide_eq_true (by first | (with_reducible assumption) | assumption)
            obtain ⟨ad299, e299, hx299_0⟩ := Kd.at_int HR1.out x6_2 p299 q299
            cases e299
            replace p299 := eq_true p299
            replace q299 := eq_true q299
            have p300 : 0 ≤ (x6_2 : Int) := of_decide_eq_true (by first | (with_reducible assumption) | assumption)
            have q300 : x6_2 < (l1.length : Int) := of_decide_eq_true (by first | (with_reducible assumption) | assumption)
            obtain ⟨ad300, e300, hx300_0⟩ := Kd.at_int HR1.out x6_2 p300 q300
            obtain rfl : ad299 = ad300 := (by injection e300)
            replace p300 := eq_true p300
            replace q300 := eq_true q300
            have p301 : 0 ≤ (x5_1 : Int) := of_decide_eq_true (by first | (with_reducible assumption) | assumption)
            have q301 : x5_1 < (l0.length : Int) := of_decide_eq_true (by first | (with_reducible assumption) | assumption)
            obtain ⟨ad301, A301_0, c301_0, e301, hx301_0, hl301_0, hi301_0⟩ := at_L3 HR0.out x5_1 p301 q301
            cases e301
            have HR301_0 := Aside0.mk hi301_0
            have HC301_0 := Aside0.mk hl301_0
            clear hi301_0 hl301_0
            replace p301 := eq_true p301
            replace q301 := eq_true q301
            go_wp2
            repeat (go_quiet (fail); try go_wp2)
            go_ret
            exact ⟨by first | rfl | (simp; done) | (simp [*]; done), by repeat (first | exact Drawn0.refl _ | apply Drawn0.step)⟩
           ·rw [if_neg c9] at H
            have c9b0 : decide (((rd_L3 l0 x5_1).length : Int) ≤ (rd l1 x6_2)) = false := decide_eq_false c9
            clear c9
            have H' := Aside0.mk H
            clear H
            have p299 : 0 ≤ (x6_2 : Int) := of_decide_eq_true (by first | (with_reducible assumption) | assumption)
            have q299 : x6_2 < (l1.length : Int) := of_decide_eq_true (by first | (with_reducible assumption) | assumption)
            obtain ⟨ad299, e299, hx299_0⟩ := Kd.at_int HR1.out x6_2 p299 q299
            cases e299
            replace p299 := eq_true p299
            replace q299 := eq_true q299
            have p300 : 0 ≤ (x6_2 : Int) := of_decide_eq_true (by first | (with_reducible assumption) | assumption)
            have q300 : x6_2 < (l1.length : Int) := of_decide_eq_true (by first | (with_reducible assumption) | assumption)
            obtain ⟨ad300, e300, hx300_0⟩ := Kd.at_int HR1.out x6_2 p300 q300
            obtain rfl : ad299 = ad300 := (by injection e300)
            replace p300 := eq_true p300
            replace q300 := eq_true q300
            have p301 : 0 ≤ (x5_1 : Int) := of_decide_eq_true (by first | (with_reducible assumption) | assumption)
            have q301 : x5_1 < (l0.length : Int) := of_decide_eq_true (by first | (with_reducible assumption) | assumption)
            obtain ⟨ad301, A301_0, c301_0, e301, hx301_0, hl301_0, hi301_0⟩ := at_L3 HR0.out x5_1 p301 q301
            cases e301
            have HR301_0 := Aside0.mk hi301_0
            have HC301_0 := Aside0.mk hl301_0
            clear hi301_0 hl301_0
            replace p301 := eq_true p301
            replace q301 := eq_true q301
            go_wp2
            repeat (go_quiet (fail); try go_wp2)
            go_roundg k2
            case measure => have := HK1.out; have := HK2.out; omega
            case rel => exact ⟨(wrap64 (x6_2 + 1)), (by first | rfl | (simp; done) | (simp [*]; done)), H', ⟨by have := HK1.out; have := HK2.out; omega⟩, by repeat (first | exact Drawn0.refl _ | apply Drawn0.step)⟩
          ·rw [if_neg c8] at H
           exact absurd H (by simp)
         ·rw [if_neg c7] at H
          exact absurd H (by simp)
       ·rw [if_neg c5] at H
        exact absurd H (by simp)
      ·rw [if_neg c4] at H
       have c4b0 : decide (x6_2 < (l1.length : Int)) = false := decide_eq_false c4
       clear c4
       have H' := Aside0.mk H
       clear H
       go_wp2
       repeat (go_quiet (fail); try go_wp2)
       go_roundg k2
       case measure => have := HK1.out; have := HK2.out; omega
       case rel => exact ⟨(wrap64 (x5_1 + 1)), (by first | rfl | (simp; done) | (simp [*]; done)), H', ⟨by have := HK1.out; have := HK2.out; omega⟩, by repeat (first | exact Drawn0.refl _ | apply Drawn0.step)⟩
   ·rw [if_neg c3] at H
    have c3b0 : decide (x5_1 < (l0.length : Int)) = false := decide_eq_false c3
    clear c3
    obtain rfl := Option.some.inj H
    go_wp2
    repeat (go_quiet (fail); try go_wp2)
    go_ret
    exact ⟨by first | rfl | (simp; done) | (simp [*]; done), by repeat (first | exact Drawn0.refl _ | apply Drawn0.step)⟩
end Go.Proofs.YtmhobbdedmjmnaaGreatDoor.Q
end
section
/- What the definition says of places; what is wrong with rows and places; no program in sight. -/
namespace Go.Proofs.YtmhobbdedmjmnaaGreatDoor
open Go.RowKit Go.Proofs.YtmhobbdedmjmnaaGreatDoor.Q Go.Proofs.YtmhobbdedmjmnaaGreatDoorW.PrintWords Go.Proofs.YtmhobbdedmjmnaaGreatDoorW.PrintLast Go.Proofs.YtmhobbdedmjmnaaGreatDoorW.PrintMore
theorem rdI_at (l : List Int) (k : Nat) (h : k < l.length) : rd l (k : Int) = l[k] := by
  unfold rd
  simp [h]
theorem placesB_cons (r : List V) (l : List (List V)) (p : List Int) : placesB (r :: l) p = (!(p.any fun c => decide (c < 0) || decide ((r.length : Int) ≤ c)) && placesB l p) := by
  unfold placesB
  rw [List.any_cons, Bool.not_or]
theorem places_l1 (l : List (List V)) (p : List Int) (i : Nat) (hi : i < l.length) (hp : p.length ≤ 1000) : ∀ (d j k : Nat), j + d = p.length →
    tacticianref02_Places.l1 (k + d + 1) l p (i : Int) (j : Int) = if ((p.drop j).any fun c => decide (c < 0) || decide ((l[i].length : Int) ≤ c)) = true then some false else tacticianref02_Places.l0 k l p (wrap64 ((i : Int) + 1)) := by
  intro d
  induction d with
  | zero =>
    intro j k hj
    rw [tacticianref02_Places.l1, if_neg (by omega), List.drop_of_length_le (by omega)]
    rfl
  | succ d ih =>
    intro j k hj
    have h1 : j < p.length := by omega
    rw [show k + (d + 1) + 1 = (k + d + 1) + 1 by omega, tacticianref02_Places.l1, if_pos (by omega), if_pos (by omega), rdI_at p j h1, List.drop_eq_getElem_cons h1, List.any_cons]
    by_cases h2 : p[j] < 0
    · rw [if_pos h2, decide_eq_true h2, Bool.true_or, Bool.true_or, if_pos rfl]
    · rw [if_neg h2, if_pos (by omega), if_pos (by omega), rdL_at l i hi, decide_eq_false h2, Bool.false_or]
      by_cases h3 : (l[i].length : Int) ≤ p[j]
      · rw [if_pos h3, decide_eq_true h3, Bool.true_or, if_pos rfl]
      · rw [if_neg h3, decide_eq_false h3, Bool.false_or, wrap_small (n := (j : Int) + 1) (by omega) (by omega), show ((j : Int) + 1) = ((j + 1 : Nat) : Int) by omega, ih (j + 1) k (by omega)]
theorem places_l0 (l : List (List V)) (p : List Int) (hl : l.length ≤ 100000) (hp : p.length ≤ 1000) : ∀ (d i k : Nat), i + d = l.length → d * (p.length + 2) + 1 ≤ k →
    tacticianref02_Places.l0 k l p (i : Int) = some (placesB (l.drop i) p) := by
  intro d
  induction d with
  | zero =>
    intro i k hi hk
    obtain ⟨k, rfl⟩ : ∃ m, k = m + 1 := ⟨k - 1, by omega⟩
    rw [tacticianref02_Places.l0, if_neg (by omega), List.drop_of_length_le (by omega)]
    rfl
  | succ d ih =>
    intro i k hi hk
    rw [Nat.succ_mul] at hk
    obtain ⟨q, rfl⟩ : ∃ m, k = m + p.length + 1 + 1 := ⟨k - p.length - 2, by omega⟩
    have h1 : i < l.length := by omega
    have h2 := places_l1 l p i h1 hp p.length 0 q (by omega)
    rw [tacticianref02_Places.l0, if_pos (by omega)]
    refine h2.trans ?_
    rw [List.drop_zero, List.drop_eq_getElem_cons h1, placesB_cons]
    cases (p.any fun c => decide (c < 0) || decide ((l[i].length : Int) ≤ c)) with
    | true => rw [if_pos rfl]; rfl
    | false => rw [if_neg (by decide), wrap_small (n := (i : Int) + 1) (by omega) (by omega), show ((i : Int) + 1) = ((i + 1 : Nat) : Int) by omega, ih (i + 1) q (by omega) (by omega)]; rfl
theorem refPlaces (l : List (List V)) (p : List Int) (hl : l.length ≤ 100) (hp : p.length ≤ 1000) (k : Nat) (hk : 110000 ≤ k) : tacticianref02_Places.f k l p = some (placesB l p) := by
  unfold tacticianref02_Places.f
  have hm : l.length * (p.length + 2) ≤ 100 * 1002 := Nat.mul_le_mul hl (by omega)
  exact places_l0 l p (by omega) hp l.length 0 k (by omega) (by omega)
end Go.Proofs.YtmhobbdedmjmnaaGreatDoor
end
section
/- What rows.Same computes, in plain words; no program in sight. -/
namespace Go.Proofs.YtmhobbdedmjmnaaGreatDoor
open Go.RowKit Go.Proofs.YtmhobbdedmjmnaaGreatDoor.Q Go.Proofs.YtmhobbdedmjmnaaGreatDoorW.PrintWords Go.Proofs.YtmhobbdedmjmnaaGreatDoorW.PrintLast Go.Proofs.YtmhobbdedmjmnaaGreatDoorW.PrintMore
theorem sameF (a b : List (List V)) (ha : RowsOk 100000 a) (hb : RowsOk 100000 b) : rows_Same.f a b = some (if smallE [a, b] = 0 then (decide (canR a = canR b), 0) else (false, smallE [a, b])) := by
  have h1 := ha.1
  unfold rows_Same.f rows_small.f rows_Sorted.f rows_Alike.f
  rw [Option.bind_some]
  by_cases hs : smallE [a, b] = 0
  · rw [if_pos hs, if_pos hs, if_pos (okR_of ha (by omega)), if_pos (okR_of hb (by omega))]
    simp only [Option.bind_some]
    rw [if_pos (by unfold canR; rw [sortBy_length]; omega), Option.bind_some]
  · rw [if_neg hs, if_neg hs]
end Go.Proofs.YtmhobbdedmjmnaaGreatDoor
end
section
/- Each function reached is shown to return what the plain function beside it computes, wherever that is defined (written by a program of ours for this seat). -/
namespace Go.Proofs.YtmhobbdedmjmnaaGreatDoor.Q
open Go.RowKit Go.Proofs.YtmhobbdedmjmnaaGreatDoorW.PrintWords Go.Proofs.YtmhobbdedmjmnaaGreatDoorW.PrintLast Go.Proofs.YtmhobbdedmjmnaaGreatDoorW.PrintMore
attribute [local go_sem] max2_int min2_int max_two min_two max_three min_three max_four min_four   -- for this text's walks alone
set_option linter.unusedVariables false
set_option linter.unusedSimpArgs false
def tacticianref01_Null.f  : Option (Int × Int × ByteArray) := some (0, 0, (⟨#[]⟩ : ByteArray))
set_option maxHeartbeats 8000000 in
set_option maxRecDepth 100000 in
theorem tacticianref01_Null.calls  (r1 : Int) (r2 : Int) (r3 : ByteArray) (w : World) (h : tacticianref01_Null.f  = some (r1, r2, r3)) :
    Calls Tryz.prog 141 #[] w fun e w' => e = .returned (.agg #[.int .i64 r1, .int .i64 r2, .string r3]) ∧ Below w.heap.size w w' := by
  have hu61 := Tryz.underlying61
  have HB := Aside0.mk (Below.refl w.heap.size w)
  have H : (some (0, 0, (⟨#[]⟩ : ByteArray))) = some (r1, r2, r3) := h
  clear h
  simp only [Option.some.injEq, Prod.mk.injEq] at H
  obtain ⟨rfl, rfl, rfl⟩ := H
  go_enter Tryz.func141, Tryz.ntmps141
  go_wp2_with (first | ((with_reducible refine gate_dst (N := 0) rfl ?_); refine box_event ?hg (N := 0) ?hd (cs := #[.int .i64 0, .int .i64 0, .string (⟨#[]⟩ : ByteArray)]) (t := 61) ?hr ?_; (case hd => rfl); (case hg => rfl); (case hr => first | (go_simp; done) | (go_simp; rfl)); intro gb527 hg w1 hbox hb; have n0_ := Aside0.mk (below_step (by repeat (first | (with_reducible first | exact HB.out | apply yA | apply yN | apply yD) | exact HB.out)) hb); have n1_ := Aside0.mk (hbox); have n2_ := Aside0.mk ((by rw [hg]; exact (below_size (by repeat (first | (with_reducible first | exact HB.out | apply yA | apply yN | apply yD) | exact HB.out))) : w.heap.size ≤ gb527)); have n3_ := Aside0.mk ((by rw [hg]; exact (below_size (by repeat (first | (with_reducible first | exact HB.out | apply yA | apply yN | apply yD) | exact HB.out))) : w.heap.size ≤ gb527)); clear HB; have HB := n0_; have BK527 := n1_; have GW527 := n2_; have GE527 := n3_; clear n0_ n1_ n2_ n3_; clear hb hbox hg; have hcz2_0 : w1.cell? ⟨gb527, 0, none⟩ = some (.int .i64 0) := (blk_cell BK527.out 0).trans rfl; have hcz2_1 : w1.cell? ⟨gb527, 1, none⟩ = some (.int .i64 0) := (blk_cell BK527.out 1).trans rfl; have hcz2_2 : w1.cell? ⟨gb527, 2, none⟩ = some (.string (⟨#[]⟩ : ByteArray)) := (blk_cell BK527.out 2).trans rfl; have hfz2_0 := blk_frozen BK527.out 0; have hfz2_1 := blk_frozen BK527.out 1; have hfz2_2 := blk_frozen BK527.out 2))
  refine bodyPost_ret (results_cell_row rfl _ _ gb527 61 #[.int .i64 0, .int .i64 0, .string (⟨#[]⟩ : ByteArray)] (0, 0) _ rfl (by (with_reducible repeat (first | refine zN ?_ _ | refine zD ?_ | refine zA ?_ _)); refine blk_put (cs := #[.int .i64 0, .int .i64 0, .string (⟨#[]⟩ : ByteArray)]) ?_ 2 _ rfl; (with_reducible repeat (first | refine zN ?_ _ | refine zD ?_ | refine zA ?_ _)); refine blk_put (cs := #[.int .i64 0, .int .i64 0, .string (⟨#[]⟩ : ByteArray)]) ?_ 1 _ rfl; (with_reducible repeat (first | refine zN ?_ _ | refine zD ?_ | refine zA ?_ _)); refine blk_put (cs := #[.int .i64 0, .int .i64 0, .string (⟨#[]⟩ : ByteArray)]) ?_ 0 _ rfl; (with_reducible repeat (first | refine zN ?_ _ | refine zD ?_ | refine zA ?_ _)); exact BK527.out) Tryz.underlying61 rfl (by kernel_rfl)) rfl ?_
  exact ⟨by first | rfl | (simp [errW_none, errW_some] <;> rfl) | (simp [*, errW_none, errW_some] <;> rfl), by repeat (first | (with_reducible first | exact HB.out | apply yA | apply yN | apply yD | refine below_set ?_ GE527.out) | exact HB.out)⟩
def tacticianref01_Bool.f (a0 : Bool) : Option (Int × Int × ByteArray) := if a0 = true then (some (2, 1, (⟨#[]⟩ : ByteArray))) else (some (2, 0, (⟨#[]⟩ : ByteArray)))
set_option maxHeartbeats 8000000 in
set_option maxRecDepth 100000 in
theorem tacticianref01_Bool.calls (a0 : Bool) (r1 : Int) (r2 : Int) (r3 : ByteArray) (w : World) (h : tacticianref01_Bool.f a0 = some (r1, r2, r3)) :
    Calls Tryz.prog 142 #[.bool a0] w fun e w' => e = .returned (.agg #[.int .i64 r1, .int .i64 r2, .string r3]) ∧ Below w.heap.size w w' := by
  have hu61 := Tryz.underlying61
  have HB := Aside0.mk (Below.refl w.heap.size w)
  have H : (if a0 = true then (some (2, 1, (⟨#[]⟩ : ByteArray))) else (some (2, 0, (⟨#[]⟩ : ByteArray)))) = some (r1, r2, r3) := h
  clear h
  by_cases c2 : a0 = true
  · subst c2
    have H1 : (some (2, 1, (⟨#[]⟩ : ByteArray))) = some (r1, r2, r3) := by rw [if_pos rfl] at H; exact H
    clear H
    have H := H1
    clear H1
    simp only [Option.some.injEq, Prod.mk.injEq] at H
    obtain ⟨rfl, rfl, rfl⟩ := H
    go_enter Tryz.func142, Tryz.ntmps142
    go_wp2_with (first | ((with_reducible refine gate_dst (N := 2) rfl ?_); refine box_event ?hg (N := 2) ?hd (cs := #[.int .i64 0, .int .i64 0, .string (⟨#[]⟩ : ByteArray)]) (t := 61) ?hr ?_; (case hd => rfl); (case hg => rfl); (case hr => first | (go_simp; done) | (go_simp; rfl)); intro gb528 hg w3 hbox hb; have n0_ := Aside0.mk (below_step (by repeat (first | (with_reducible first | exact HB.out | apply yA | apply yN | apply yD) | exact HB.out)) hb); have n1_ := Aside0.mk (hbox); have n2_ := Aside0.mk ((by rw [hg]; exact (below_size (by repeat (first | (with_reducible first | exact HB.out | apply yA | apply yN | apply yD) | exact HB.out))) : w.heap.size ≤ gb528)); have n3_ := Aside0.mk ((by rw [hg]; exact (below_size (by repeat (first | (with_reducible first | exact HB.out | apply yA | apply yN | apply yD) | exact HB.out))) : w.heap.size ≤ gb528)); clear HB; have HB := n0_; have BK528 := n1_; have GW528 := n2_; have GE528 := n3_; clear n0_ n1_ n2_ n3_; clear hb hbox hg; have hcz4_0 : w3.cell? ⟨gb528, 0, none⟩ = some (.int .i64 0) := (blk_cell BK528.out 0).trans rfl; have hcz4_1 : w3.cell? ⟨gb528, 1, none⟩ = some (.int .i64 0) := (blk_cell BK528.out 1).trans rfl; have hcz4_2 : w3.cell? ⟨gb528, 2, none⟩ = some (.string (⟨#[]⟩ : ByteArray)) := (blk_cell BK528.out 2).trans rfl; have hfz4_0 := blk_frozen BK528.out 0; have hfz4_1 := blk_frozen BK528.out 1; have hfz4_2 := blk_frozen BK528.out 2))
    refine bodyPost_ret (results_cell_row rfl _ _ gb528 61 #[.int .i64 2, .int .i64 1, .string (⟨#[]⟩ : ByteArray)] (0, 0) _ rfl (by (with_reducible repeat (first | refine zN ?_ _ | refine zD ?_ | refine zA ?_ _)); refine blk_put (cs := #[.int .i64 2, .int .i64 1, .string (⟨#[]⟩ : ByteArray)]) ?_ 2 _ rfl; (with_reducible repeat (first | refine zN ?_ _ | refine zD ?_ | refine zA ?_ _)); refine blk_put (cs := #[.int .i64 2, .int .i64 0, .string (⟨#[]⟩ : ByteArray)]) ?_ 1 _ rfl; (with_reducible repeat (first | refine zN ?_ _ | refine zD ?_ | refine zA ?_ _)); refine blk_put (cs := #[.int .i64 0, .int .i64 0, .string (⟨#[]⟩ : ByteArray)]) ?_ 0 _ rfl; (with_reducible repeat (first | refine zN ?_ _ | refine zD ?_ | refine zA ?_ _)); exact BK528.out) Tryz.underlying61 rfl (by kernel_rfl)) rfl ?_
    exact ⟨by first | rfl | (simp [errW_none, errW_some] <;> rfl) | (simp [*, errW_none, errW_some] <;> rfl), by repeat (first | (with_reducible first | exact HB.out | apply yA | apply yN | apply yD | refine below_set ?_ GE528.out) | exact HB.out)⟩
  · replace c2 := Bool.eq_false_iff.mpr c2
    subst c2
    have H1 : (some (2, 0, (⟨#[]⟩ : ByteArray))) = some (r1, r2, r3) := by rw [if_neg (show ¬ (false = true) by decide)] at H; exact H
    clear H
    have H := H1
    clear H1
    simp only [Option.some.injEq, Prod.mk.injEq] at H
    obtain ⟨rfl, rfl, rfl⟩ := H
    go_enter Tryz.func142, Tryz.ntmps142
    go_wp2_with (first | ((with_reducible refine gate_dst (N := 2) rfl ?_); refine box_event ?hg (N := 2) ?hd (cs := #[.int .i64 0, .int .i64 0, .string (⟨#[]⟩ : ByteArray)]) (t := 61) ?hr ?_; (case hd => rfl); (case hg => rfl); (case hr => first | (go_simp; done) | (go_simp; rfl)); intro gb528 hg w5 hbox hb; have n0_ := Aside0.mk (below_step (by repeat (first | (with_reducible first | exact HB.out | apply yA | apply yN | apply yD) | exact HB.out)) hb); have n1_ := Aside0.mk (hbox); have n2_ := Aside0.mk ((by rw [hg]; exact (below_size (by repeat (first | (with_reducible first | exact HB.out | apply yA | apply yN | apply yD) | exact HB.out))) : w.heap.size ≤ gb528)); have n3_ := Aside0.mk ((by rw [hg]; exact (below_size (by repeat (first | (with_reducible first | exact HB.out | apply yA | apply yN | apply yD) | exact HB.out))) : w.heap.size ≤ gb528)); clear HB; have HB := n0_; have BK528 := n1_; have GW528 := n2_; have GE528 := n3_; clear n0_ n1_ n2_ n3_; clear hb hbox hg; have hcz6_0 : w5.cell? ⟨gb528, 0, none⟩ = some (.int .i64 0) := (blk_cell BK528.out 0).trans rfl; have hcz6_1 : w5.cell? ⟨gb528, 1, none⟩ = some (.int .i64 0) := (blk_cell BK528.out 1).trans rfl; have hcz6_2 : w5.cell? ⟨gb528, 2, none⟩ = some (.string (⟨#[]⟩ : ByteArray)) := (blk_cell BK528.out 2).trans rfl; have hfz6_0 := blk_frozen BK528.out 0; have hfz6_1 := blk_frozen BK528.out 1; have hfz6_2 := blk_frozen BK528.out 2))
    refine bodyPost_ret (results_cell_row rfl _ _ gb528 61 #[.int .i64 2, .int .i64 0, .string (⟨#[]⟩ : ByteArray)] (0, 0) _ rfl (by (with_reducible repeat (first | refine zN ?_ _ | refine zD ?_ | refine zA ?_ _)); refine blk_put (cs := #[.int .i64 2, .int .i64 0, .string (⟨#[]⟩ : ByteArray)]) ?_ 2 _ rfl; (with_reducible repeat (first | refine zN ?_ _ | refine zD ?_ | refine zA ?_ _)); refine blk_put (cs := #[.int .i64 2, .int .i64 0, .string (⟨#[]⟩ : ByteArray)]) ?_ 1 _ rfl; (with_reducible repeat (first | refine zN ?_ _ | refine zD ?_ | refine zA ?_ _)); refine blk_put (cs := #[.int .i64 0, .int .i64 0, .string (⟨#[]⟩ : ByteArray)]) ?_ 0 _ rfl; (with_reducible repeat (first | refine zN ?_ _ | refine zD ?_ | refine zA ?_ _)); exact BK528.out) Tryz.underlying61 rfl (by kernel_rfl)) rfl ?_
    exact ⟨by first | rfl | (simp [errW_none, errW_some] <;> rfl) | (simp [*, errW_none, errW_some] <;> rfl), by repeat (first | (with_reducible first | exact HB.out | apply yA | apply yN | apply yD | refine below_set ?_ GE528.out) | exact HB.out)⟩
def tacticianref01_Text.f (a0 : ByteArray) : Option (Int × Int × ByteArray) := some (3, 0, a0)
set_option maxHeartbeats 8000000 in
set_option maxRecDepth 100000 in
theorem tacticianref01_Text.calls (a0 : ByteArray) (r1 : Int) (r2 : Int) (r3 : ByteArray) (w : World) (h : tacticianref01_Text.f a0 = some (r1, r2, r3)) :
  Calls Tryz.prog 143 #[.string a0] w fun e w' => e = .returned (.agg #[.int .i64 r1, .int .i64 r2, .string r3]) ∧ Below w.heap.size w w' := by
 have hu61 := Tryz.underlying61
 have HB := Aside0.mk (Below.refl w.heap.size w)
 have H : (some (3, 0, a0)) = some (r1, r2, r3) := h
 clear h
 simp only [Option.some.injEq, Prod.mk.injEq] at H
 obtain ⟨rfl, rfl, rfl⟩ := H
 go_enter Tryz.func143, Tryz.ntmps143
 go_wp2_with (first | ((with_reducible refine gate_dst (N := 2) rfl ?_); refine box_event ?hg (N := 2) ?hd (cs := #[.int .i64 0, .int .i64 0, .string (⟨#[]⟩ : ByteArray)]) (t := 61) ?hr ?_; (case hd => rfl); (case hg => rfl); (case hr => first | (go_simp; done) | (go_simp; rfl)); intro gb529 hg w2 hbox hb; have n0_ := Aside0.mk (below_step (by repeat (first | (with_reducible first | exact HB.out | apply yA | apply yN | apply yD) | exact HB.out)) hb); have n1_ := Aside0.mk (hbox); have n2_ := Aside0.mk ((by rw [hg]; exact (below_size (by repeat (first | (with_reducible first | exact HB.out | apply yA | apply yN | apply yD) | exact HB.out))) : w.heap.size ≤ gb529)); have n3_ := Aside0.mk ((by rw [hg]; exact (below_size (by repeat (first | (with_reducible first | exact HB.out | apply yA | apply yN | apply yD) | exact HB.out))) : w.heap.size ≤ gb529)); clear HB; have HB := n0_; have BK529 := n1_; have GW529 := n2_; have GE529 := n3_; clear n0_ n1_ n2_ n3_; clear hb hbox hg; have hcz3_0 : w2.cell? ⟨gb529, 0, none⟩ = some (.int .i64 0) := (blk_cell BK529.out 0).trans rfl; have hcz3_1 : w2.cell? ⟨gb529, 1, none⟩ = some (.int .i64 0) := (blk_cell BK529.out 1).trans rfl; have hcz3_2 : w2.cell? ⟨gb529, 2, none⟩ = some (.string (⟨#[]⟩ : ByteArray)) := (blk_cell BK529.out 2).trans rfl; have hfz3_0 := blk_frozen BK529.out 0; have hfz3_1 := blk_frozen BK529.out 1; have hfz3_2 := blk_frozen BK529.out 2))
 refine bodyPost_ret (results_cell_row rfl _ _ gb529 61 #[.int .i64 3, .int .i64 0, .string a0] (0, 0) _ rfl (by (with_reducible repeat (first | refine zN ?_ _ | refine zD ?_ | refine zA ?_ _)); refine blk_put (cs := #[.int .i64 3, .int .i64 0, .string (⟨#[]⟩ : ByteArray)]) ?_ 2 _ rfl; (with_reducible repeat (first | refine zN ?_ _ | refine zD ?_ | refine zA ?_ _)); refine blk_put (cs := #[.int .i64 3, .int .i64 0, .string (⟨#[]⟩ : ByteArray)]) ?_ 1 _ rfl; (with_reducible repeat (first | refine zN ?_ _ | refine zD ?_ | refine zA ?_ _)); refine blk_put (cs := #[.int .i64 0, .int .i64 0, .string (⟨#[]⟩ : ByteArray)]) ?_ 0 _ rfl; (with_reducible repeat (first | refine zN ?_ _ | refine zD ?_ | refine zA ?_ _)); exact BK529.out) Tryz.underlying61 rfl (by kernel_rfl)) rfl ?_
 exact ⟨by first | rfl | (simp [errW_none, errW_some] <;> rfl) | (simp [*, errW_none, errW_some] <;> rfl), by repeat (first | (with_reducible first | exact HB.out | apply yA | apply yN | apply yD | refine below_set ?_ GE529.out) | exact HB.out)⟩
end Go.Proofs.YtmhobbdedmjmnaaGreatDoor.Q
end
section
/- Each function reached is shown to return what the plain function beside it computes, wherever that is defined (written by a program of ours for this seat). -/
namespace Go.Proofs.YtmhobbdedmjmnaaGreatDoor.Q
open Go.RowKit Go.Proofs.YtmhobbdedmjmnaaGreatDoorW.PrintWords Go.Proofs.YtmhobbdedmjmnaaGreatDoorW.PrintLast Go.Proofs.YtmhobbdedmjmnaaGreatDoorW.PrintMore
attribute [local go_sem] max2_int min2_int max_two min_two max_three min_three max_four min_four   -- for this text's walks alone
set_option linter.unusedVariables false
set_option linter.unusedSimpArgs false
mutual
def tacticianref01_TameAs.j0 : Nat → Bool → Int → Int → ByteArray → Int → Bool → Option (Int × Int × ByteArray)
  | 0, _, _, _, _, _, _ => none
  | k + 1, x20, x531000, x531001, x531002, x532000, x532001 => if x20 = true then ((tacticianref01_Null.f).bind fun bt533 => (some (bt533.1, bt533.2.1, bt533.2.2))) else (if x532000 = 2 then ((tacticianref01_Bool.f ((Int.tmod x531001 2) != 0)).bind fun bt536 => (some (bt536.1, bt536.2.1, bt536.2.2))) else (if x532000 = 3 then (tacticianref01_TameAs.l0 k (⟨#[]⟩ : ByteArray) 0 x531000 x531001 x531002) else (if (Int.tmod (IntKind.u64.wrap (x531001)) 16) = 15 then ((tacticianref01_Int.f x531001).bind fun bt545 => (some (bt545.1, bt545.2.1, bt545.2.2))) else ((tacticianref01_Int.f (wrap64 ((wrap64 (Int.tmod (IntKind.u64.wrap (x531001)) 7)) - 2))).bind fun bt548 => (some (bt548.1, bt548.2.1, bt548.2.2))))))
def tacticianref01_TameAs.l0 : Nat → ByteArray → Int → Int → Int → ByteArray → Option (Int × Int × ByteArray)
  | 0, _, _, _, _, _ => none
  | k + 1, x5, x6, x531000, x531001, x531002 => if x6 < (x531002.size : Int) then (if x6 < 3 then (if 0 ≤ x6 then (if 0 ≤ (Int.tmod (bt x531002 x6) 3) then (if (Int.tmod (bt x531002 x6) 3) ≤ (((Int.tmod (bt x531002 x6) 3) + 1) % 256) then (if (((Int.tmod (bt x531002 x6) 3) + 1) % 256) ≤ 3 then (if x5.size + ((⟨#[97, 98, 39]⟩ : ByteArray).extract ((Int.tmod (bt x531002 x6) 3) : Int).toNat ((((Int.tmod (bt x531002 x6) 3) + 1) % 256) : Int).toNat).size ≤ 9223372036854775807 then (tacticianref01_TameAs.l0 k (x5 ++ ((⟨#[97, 98, 39]⟩ : ByteArray).extract ((Int.tmod (bt x531002 x6) 3) : Int).toNat ((((Int.tmod (bt x531002 x6) 3) + 1) % 256) : Int).toNat)) (wrap64 (x6 + 1)) x531000 x531001 x531002) else (none)) else (none)) else (none)) else (none)) else (none)) else ((tacticianref01_Text.f x5).bind fun bt539 => (some (bt539.1, bt539.2.1, bt539.2.2)))) else ((tacticianref01_Text.f x5).bind fun bt542 => (some (bt542.1, bt542.2.1, bt542.2.2)))
end
def tacticianref01_TameAs.f (k : Nat) (a0_0 : Int) (a0_1 : Int) (a0_2 : ByteArray) (a1_0 : Int) (a1_1 : Bool) : Option (Int × Int × ByteArray) := if a1_1 = true then (if a0_0 = 0 then (tacticianref01_TameAs.j0 k true a0_0 a0_1 a0_2 a1_0 a1_1) else (tacticianref01_TameAs.j0 k ((Int.tmod (IntKind.u64.wrap (a0_1)) 5) == 4) a0_0 a0_1 a0_2 a1_0 a1_1)) else (tacticianref01_TameAs.j0 k false a0_0 a0_1 a0_2 a1_0 a1_1)
set_option maxHeartbeats 8000000 in
set_option maxRecDepth 100000 in
theorem tacticianref01_TameAs.calls (k : Nat) (a0_0 : Int) (a0_1 : Int) (a0_2 : ByteArray) (a1_0 : Int) (a1_1 : Bool) (r1 : Int) (r2 : Int) (r3 : ByteArray) (w : World) (h : tacticianref01_TameAs.f k a0_0 a0_1 a0_2 a1_0 a1_1 = some (r1, r2, r3)) :
  Calls Tryz.prog 112 #[.agg #[.int .i64 a0_0, .int .i64 a0_1, .string a0_2], .agg #[.int .i64 a1_0, .bool a1_1]] w fun e w' => e = .returned (.agg #[.int .i64 r1, .int .i64 r2, .string r3]) ∧ Below w.heap.size w w' := by
 have hu61 := Tryz.underlying61
 have hu88 := Tryz.underlying88
 have HB := Aside0.mk (Below.refl w.heap.size w)
 have H : (if a1_1 = true then (if a0_0 = 0 then (tacticianref01_TameAs.j0 k true a0_0 a0_1 a0_2 a1_0 a1_1) else (tacticianref01_TameAs.j0 k ((Int.tmod (IntKind.u64.wrap (a0_1)) 5) == 4) a0_0 a0_1 a0_2 a1_0 a1_1)) else (tacticianref01_TameAs.j0 k false a0_0 a0_1 a0_2 a1_0 a1_1)) = some (r1, r2, r3) := h
 clear h
 have HC3 := Aside0.mk H
 clear H
 go_enter Tryz.func112, Tryz.ntmps112
 go_upto_region 1 with (first | ((with_reducible refine gate_dst (N := 2) rfl ?_); refine box_event ?hg (N := 2) ?hd (cs := #[.int .i64 a0_0, .int .i64 a0_1, .string a0_2]) (t := 61) ?hr ?_; (case hd => rfl); (case hg => rfl); (case hr => first | (go_simp; done) | (go_simp; rfl)); intro gb530 hg w4 hbox hb; have n0_ := Aside0.mk (below_step (by repeat (first | (with_reducible first | exact HB.out | apply yA | apply yN | apply yD) | exact HB.out)) hb); have n1_ := Aside0.mk (hbox); have n2_ := Aside0.mk ((by rw [hg]; exact (below_size (by repeat (first | (with_reducible first | exact HB.out | apply yA | apply yN | apply yD) | exact HB.out))) : w.heap.size ≤ gb530)); have n3_ := Aside0.mk ((by rw [hg]; exact (below_size (by repeat (first | (with_reducible first | exact HB.out | apply yA | apply yN | apply yD) | exact HB.out))) : w.heap.size ≤ gb530)); clear HB; have HB := n0_; have BK530 := n1_; have GW530 := n2_; have GE530 := n3_; clear n0_ n1_ n2_ n3_; clear hb hbox hg) | ((with_reducible refine gate_dst (N := 3) rfl ?_); refine box_event ?hg (N := 3) ?hd (cs := #[.int .i64 a1_0, .bool a1_1]) (t := 88) ?hr ?_; (case hd => rfl); (case hg => rfl); (case hr => first | (go_simp; done) | (go_simp; rfl)); intro gb531 hg w5 hbox hb; have n0_ := Aside0.mk (blk_below (g := gb530) (o := .cells #[.int .i64 a0_0, .int .i64 a0_1, .string a0_2] 61 (0, 0)) (by (with_reducible repeat (first | refine zN ?_ _ | refine zD ?_ | refine zA ?_ _)); exact BK530.out) hb); have n1_ := Aside0.mk (below_step (by repeat (first | (with_reducible first | exact HB.out | apply yA | apply yN | apply yD | refine below_set ?_ GE530.out) | exact HB.out)) hb); have n2_ := Aside0.mk (hbox); have n3_ := Aside0.mk ((by rw [hg]; exact (below_size (by repeat (first | (with_reducible first | exact HB.out | apply yA | apply yN | apply yD | refine below_set ?_ GE530.out) | exact HB.out))) : w.heap.size ≤ gb531)); have n4_ := Aside0.mk ((by rw [hg]; exact (below_size (by repeat (first | (with_reducible first | exact HB.out | apply yA | apply yN | apply yD | refine below_set ?_ GE530.out) | exact HB.out))) : w.heap.size ≤ gb531)); have n5_ := Aside0.mk ((by rw [hg]; exact Nat.ne_of_lt (blk_lt (g := gb530) (o := .cells #[.int .i64 a0_0, .int .i64 a0_1, .string a0_2] 61 (0, 0)) (by (with_reducible repeat (first | refine zN ?_ _ | refine zD ?_ | refine zA ?_ _)); exact BK530.out)) : gb530 ≠ gb531)); have n6_ := Aside0.mk ((by rw [hg]; exact Nat.ne_of_gt (blk_lt (g := gb530) (o := .cells #[.int .i64 a0_0, .int .i64 a0_1, .string a0_2] 61 (0, 0)) (by (with_reducible repeat (first | refine zN ?_ _ | refine zD ?_ | refine zA ?_ _)); exact BK530.out)) : gb531 ≠ gb530)); clear BK530; clear HB; have BK530 := n0_; have HB := n1_; have BK531 := n2_; have GW531 := n3_; have GE531 := n4_; have NB530_531 := n5_; have NB531_530 := n6_; clear n0_ n1_ n2_ n3_ n4_ n5_ n6_; clear hb hbox hg) | ((with_reducible refine gate_dst (N := 4) rfl ?_); refine box_event ?hg (N := 4) ?hd (cs := #[.int .i64 0, .int .i64 0, .string (⟨#[]⟩ : ByteArray)]) (t := 61) ?hr ?_; (case hd => rfl); (case hg => rfl); (case hr => first | (go_simp; done) | (go_simp; rfl)); intro gb532 hg w6 hbox hb; have n0_ := Aside0.mk (blk_below (g := gb530) (o := .cells #[.int .i64 a0_0, .int .i64 a0_1, .string a0_2] 61 (0, 0)) (by (with_reducible repeat (first | refine zN ?_ _ | refine zD ?_ | refine zA ?_ _)); exact BK530.out) hb); have n1_ := Aside0.mk (blk_below (g := gb531) (o := .cells #[.int .i64 a1_0, .bool a1_1] 88 (0, 0)) (by (with_reducible repeat (first | refine zN ?_ _ | refine zD ?_ | refine zA ?_ _)); exact BK531.out) hb); have n2_ := Aside0.mk (below_step (by repeat (first | (with_reducible first | exact HB.out | apply yA | apply yN | apply yD | refine below_set ?_ GE530.out | refine below_set ?_ GE531.out) | exact HB.out)) hb); have n3_ := Aside0.mk (hbox); have n4_ := Aside0.mk ((by rw [hg]; exact (below_size (by repeat (first | (with_reducible first | exact HB.out | apply yA | apply yN | apply yD | refine below_set ?_ GE530.out | refine below_set ?_ GE531.out) | exact HB.out))) : w.heap.size ≤ gb532)); have n5_ := Aside0.mk ((by rw [hg]; exact (below_size (by repeat (first | (with_reducible first | exact HB.out | apply yA | apply yN | apply yD | refine below_set ?_ GE530.out | refine below_set ?_ GE531.out) | exact HB.out))) : w.heap.size ≤ gb532)); have n6_ := Aside0.mk ((by rw [hg]; exact Nat.ne_of_lt (blk_lt (g := gb530) (o := .cells #[.int .i64 a0_0, .int .i64 a0_1, .string a0_2] 61 (0, 0)) (by (with_reducible repeat (first | refine zN ?_ _ | refine zD ?_ | refine zA ?_ _)); exact BK530.out)) : gb530 ≠ gb532)); have n7_ := Aside0.mk ((by rw [hg]; exact Nat.ne_of_gt (blk_lt (g := gb530) (o := .cells #[.int .i64 a0_0, .int .i64 a0_1, .string a0_2] 61 (0, 0)) (by (with_reducible repeat (first | refine zN ?_ _ | refine zD ?_ | refine zA ?_ _)); exact BK530.out)) : gb532 ≠ gb530)); have n8_ := Aside0.mk ((by rw [hg]; exact Nat.ne_of_lt (blk_lt (g := gb531) (o := .cells #[.int .i64 a1_0, .bool a1_1] 88 (0, 0)) (by (with_reducible repeat (first | refine zN ?_ _ | refine zD ?_ | refine zA ?_ _)); exact BK531.out)) : gb531 ≠ gb532)); have n9_ := Aside0.mk ((by rw [hg]; exact Nat.ne_of_gt (blk_lt (g := gb531) (o := .cells #[.int .i64 a1_0, .bool a1_1] 88 (0, 0)) (by (with_reducible repeat (first | refine zN ?_ _ | refine zD ?_ | refine zA ?_ _)); exact BK531.out)) : gb532 ≠ gb531)); clear BK530; clear BK531; clear HB; have BK530 := n0_; have BK531 := n1_; have HB := n2_; have BK532 := n3_; have GW532 := n4_; have GE532 := n5_; have NB530_532 := n6_; have NB532_530 := n7_; have NB531_532 := n8_; have NB532_531 := n9_; clear n0_ n1_ n2_ n3_ n4_ n5_ n6_ n7_ n8_ n9_; clear hb hbox hg))
 repeat (go_quiet (first | ((with_reducible refine gate_dst (N := 2) rfl ?_); refine box_event ?hg (N := 2) ?hd (cs := #[.int .i64 a0_0, .int .i64 a0_1, .string a0_2]) (t := 61) ?hr ?_; (case hd => rfl); (case hg => rfl); (case hr => first | (go_simp; done) | (go_simp; rfl)); intro gb530 hg w4 hbox hb; have n0_ := Aside0.mk (below_step (by repeat (first | (with_reducible first | exact HB.out | apply yA | apply yN | apply yD) | exact HB.out)) hb); have n1_ := Aside0.mk (hbox); have n2_ := Aside0.mk ((by rw [hg]; exact (below_size (by repeat (first | (with_reducible first | exact HB.out | apply yA | apply yN | apply yD) | exact HB.out))) : w.heap.size ≤ gb530)); have n3_ := Aside0.mk ((by rw [hg]; exact (below_size (by repeat (first | (with_reducible first | exact HB.out | apply yA | apply yN | apply yD) | exact HB.out))) : w.heap.size ≤ gb530)); clear HB; have HB := n0_; have BK530 := n1_; have GW530 := n2_; have GE530 := n3_; clear n0_ n1_ n2_ n3_; clear hb hbox hg) | ((with_reducible refine gate_dst (N := 3) rfl ?_); refine box_event ?hg (N := 3) ?hd (cs := #[.int .i64 a1_0, .bool a1_1]) (t := 88) ?hr ?_; (case hd => rfl); (case hg => rfl); (case hr => first | (go_simp; done) | (go_simp; rfl)); intro gb531 hg w5 hbox hb; have n0_ := Aside0.mk (blk_below (g := gb530) (o := .cells #[.int .i64 a0_0, .int .i64 a0_1, .string a0_2] 61 (0, 0)) (by (with_reducible repeat (first | refine zN ?_ _ | refine zD ?_ | refine zA ?_ _)); exact BK530.out) hb); have n1_ := Aside0.mk (below_step (by repeat (first | (with_reducible first | exact HB.out | apply yA | apply yN | apply yD | refine below_set ?_ GE530.out) | exact HB.out)) hb); have n2_ := Aside0.mk (hbox); have n3_ := Aside0.mk ((by rw [hg]; exact (below_size (by repeat (first | (with_reducible first | exact HB.out | apply yA | apply yN | apply yD | refine below_set ?_ GE530.out) | exact HB.out))) : w.heap.size ≤ gb531)); have n4_ := Aside0.mk ((by rw [hg]; exact (below_size (by repeat (first | (with_reducible first | exact HB.out | apply yA | apply yN | apply yD | refine below_set ?_ GE530.out) | exact HB.out))) : w.heap.size ≤ gb531)); have n5_ := Aside0.mk ((by rw [hg]; exact Nat.ne_of_lt (blk_lt (g := gb530) (o := .cells #[.int .i64 a0_0, .int .i64 a0_1, .string a0_2] 61 (0, 0)) (by (with_reducible repeat (first | refine zN ?_ _ | refine zD ?_ | refine zA ?_ _)); exact BK530.out)) : gb530 ≠ gb531)); have n6_ := Aside0.mk ((by rw [hg]; exact Nat.ne_of_gt (blk_lt (g := gb530) (o := .cells #[.int .i64 a0_0, .int .i64 a0_1, .string a0_2] 61 (0, 0)) (by (with_reducible repeat (first | refine zN ?_ _ | refine zD ?_ | refine zA ?_ _)); exact BK530.out)) : gb531 ≠ gb530)); clear BK530; clear HB; have BK530 := n0_; have HB := n1_; have BK531 := n2_; have GW531 := n3_; have GE531 := n4_; have NB530_531 := n5_; have NB531_530 := n6_; clear n0_ n1_ n2_ n3_ n4_ n5_ n6_; clear hb hbox hg) | ((with_reducible refine gate_dst (N := 4) rfl ?_); refine box_event ?hg (N := 4) ?hd (cs := #[.int .i64 0, .int .i64 0, .string (⟨#[]⟩ : ByteArray)]) (t := 61) ?hr ?_; (case hd => rfl); (case hg => rfl); (case hr => first | (go_simp; done) | (go_simp; rfl)); intro gb532 hg w6 hbox hb; have n0_ := Aside0.mk (blk_below (g := gb530) (o := .cells #[.int .i64 a0_0, .int .i64 a0_1, .string a0_2] 61 (0, 0)) (by (with_reducible repeat (first | refine zN ?_ _ | refine zD ?_ | refine zA ?_ _)); exact BK530.out) hb); have n1_ := Aside0.mk (blk_below (g := gb531) (o := .cells #[.int .i64 a1_0, .bool a1_1] 88 (0, 0)) (by (with_reducible repeat (first | refine zN ?_ _ | refine zD ?_ | refine zA ?_ _)); exact BK531.out) hb); have n2_ := Aside0.mk (below_step (by repeat (first | (with_reducible first | exact HB.out | apply yA | apply yN | apply yD | refine below_set ?_ GE530.out | refine below_set ?_ GE531.out) | exact HB.out)) hb); have n3_ := Aside0.mk (hbox); have n4_ := Aside0.mk ((by rw [hg]; exact (below_size (by repeat (first | (with_reducible first | exact HB.out | apply yA | apply yN | apply yD | refine below_set ?_ GE530.out | refine below_set ?_ GE531.out) | exact HB.out))) : w.heap.size ≤ gb532)); have n5_ := Aside0.mk ((by rw [hg]; exact (below_size (by repeat (first | (with_reducible first | exact HB.out | apply yA | apply yN | apply yD | refine below_set ?_ GE530.out | refine below_set ?_ GE531.out) | exact HB.out))) : w.heap.size ≤ gb532)); have n6_ := Aside0.mk ((by rw [hg]; exact Nat.ne_of_lt (blk_lt (g := gb530) (o := .cells #[.int .i64 a0_0, .int .i64 a0_1, .string a0_2] 61 (0, 0)) (by (with_reducible repeat (first | refine zN ?_ _ | refine zD ?_ | refine zA ?_ _)); exact BK530.out)) : gb530 ≠ gb532)); have n7_ := Aside0.mk ((by rw [hg]; exact Nat.ne_of_gt (blk_lt (g := gb530) (o := .cells #[.int .i64 a0_0, .int .i64 a0_1, .string a0_2] 61 (0, 0)) (by (with_reducible repeat (first | refine zN ?_ _ | refine zD ?_ | refine zA ?_ _)); exact BK530.out)) : gb532 ≠ gb530)); have n8_ := Aside0.mk ((by rw [hg]; exact Nat.ne_of_lt (blk_lt (g := gb531) (o := .cells #[.int .i64 a1_0, .bool a1_1] 88 (0, 0)) (by (with_reducible repeat (first | refine zN ?_ _ | refine zD ?_ | refine zA ?_ _)); exact BK531.out)) : gb531 ≠ gb532)); have n9_ := Aside0.mk ((by rw [hg]; exact Nat.ne_of_gt (blk_lt (g := gb531) (o := .cells #[.int .i64 a1_0, .bool a1_1] 88 (0, 0)) (by (with_reducible repeat (first | refine zN ?_ _ | refine zD ?_ | refine zA ?_ _)); exact BK531.out)) : gb532 ≠ gb531)); clear BK530; clear BK531; clear HB; have BK530 := n0_; have BK531 := n1_; have HB := n2_; have BK532 := n3_; have GW532 := n4_; have GE532 := n5_; have NB530_532 := n6_; have NB532_530 := n7_; have NB531_532 := n8_; have NB532_531 := n9_; clear n0_ n1_ n2_ n3_ n4_ n5_ n6_ n7_ n8_ n9_; clear hb hbox hg)); go_upto_region 1 with (first | ((with_reducible refine gate_dst (N := 2) rfl ?_); refine box_event ?hg (N := 2) ?hd (cs := #[.int .i64 a0_0, .int .i64 a0_1, .string a0_2]) (t := 61) ?hr ?_; (case hd => rfl); (case hg => rfl); (case hr => first | (go_simp; done) | (go_simp; rfl)); intro gb530 hg w4 hbox hb; have n0_ := Aside0.mk (below_step (by repeat (first | (with_reducible first | exact HB.out | apply yA | apply yN | apply yD) | exact HB.out)) hb); have n1_ := Aside0.mk (hbox); have n2_ := Aside0.mk ((by rw [hg]; exact (below_size (by repeat (first | (with_reducible first | exact HB.out | apply yA | apply yN | apply yD) | exact HB.out))) : w.heap.size ≤ gb530)); have n3_ := Aside0.mk ((by rw [hg]; exact (below_size (by repeat (first | (with_reducible first | exact HB.out | apply yA | apply yN | apply yD) | exact HB.out))) : w.heap.size ≤ gb530)); clear HB; have HB := n0_; have BK530 := n1_; have GW530 := n2_; have GE530 := n3_; clear n0_ n1_ n2_ n3_; clear hb hbox hg) | ((with_reducible refine gate_dst (N := 3) rfl ?_); refine box_event ?hg (N := 3) ?hd (cs := #[.int .i64 a1_0, .bool a1_1]) (t := 88) ?hr ?_; (case hd => rfl); (case hg => rfl); (case hr => first | (go_simp; done) | (go_simp; rfl)); intro gb531 hg w5 hbox hb; have n0_ := Aside0.mk (blk_below (g := gb530) (o := .cells #[.int .i64 a0_0, .int .i64 a0_1, .string a0_2] 61 (0, 0)) (by (with_reducible repeat (first | refine zN ?_ _ | refine zD ?_ | refine zA ?_ _)); exact BK530.out) hb); have n1_ := Aside0.mk (below_step (by repeat (first | (with_reducible first | exact HB.out | apply yA | apply yN | apply yD | refine below_set ?_ GE530.out) | exact HB.out)) hb); have n2_ := Aside0.mk (hbox); have n3_ := Aside0.mk ((by rw [hg]; exact (below_size (by repeat (first | (with_reducible first | exact HB.out | apply yA | apply yN | apply yD | refine below_set ?_ GE530.out) | exact HB.out))) : w.heap.size ≤ gb531)); have n4_ := Aside0.mk ((by rw [hg]; exact (below_size (by repeat (first | (with_reducible first | exact HB.out | apply yA | apply yN | apply yD | refine below_set ?_ GE530.out) | exact HB.out))) : w.heap.size ≤ gb531)); have n5_ := Aside0.mk ((by rw [hg]; exact Nat.ne_of_lt (blk_lt (g := gb530) (o := .cells #[.int .i64 a0_0, .int .i64 a0_1, .string a0_2] 61 (0, 0)) (by (with_reducible repeat (first | refine zN ?_ _ | refine zD ?_ | refine zA ?_ _)); exact BK530.out)) : gb530 ≠ gb531)); have n6_ := Aside0.mk ((by rw [hg]; exact Nat.ne_of_gt (blk_lt (g := gb530) (o := .cells #[.int .i64 a0_0, .int .i64 a0_1, .string a0_2] 61 (0, 0)) (by (with_reducible repeat (first | refine zN ?_ _ | refine zD ?_ | refine zA ?_ _)); exact BK530.out)) : gb531 ≠ gb530)); clear BK530; clear HB; have BK530 := n0_; have HB := n1_; have BK531 := n2_; have GW531 := n3_; have GE531 := n4_; have NB530_531 := n5_; have NB531_530 := n6_; clear n0_ n1_ n2_ n3_ n4_ n5_ n6_; clear hb hbox hg) | ((with_reducible refine gate_dst (N := 4) rfl ?_); refine box_event ?hg (N := 4) ?hd (cs := #[.int .i64 0, .int .i64 0, .string (⟨#[]⟩ : ByteArray)]) (t := 61) ?hr ?_; (case hd => rfl); (case hg => rfl); (case hr => first | (go_simp; done) | (go_simp; rfl)); intro gb532 hg w6 hbox hb; have n0_ := Aside0.mk (blk_below (g := gb530) (o := .cells #[.int .i64 a0_0, .int .i64 a0_1, .string a0_2] 61 (0, 0)) (by (with_reducible repeat (first | refine zN ?_ _ | refine zD ?_ | refine zA ?_ _)); exact BK530.out) hb); have n1_ := Aside0.mk (blk_below (g := gb531) (o := .cells #[.int .i64 a1_0, .bool a1_1] 88 (0, 0)) (by (with_reducible repeat (first | refine zN ?_ _ | refine zD ?_ | refine zA ?_ _)); exact BK531.out) hb); have n2_ := Aside0.mk (below_step (by repeat (first | (with_reducible first | exact HB.out | apply yA | apply yN | apply yD | refine below_set ?_ GE530.out | refine below_set ?_ GE531.out) | exact HB.out)) hb); have n3_ := Aside0.mk (hbox); have n4_ := Aside0.mk ((by rw [hg]; exact (below_size (by repeat (first | (with_reducible first | exact HB.out | apply yA | apply yN | apply yD | refine below_set ?_ GE530.out | refine below_set ?_ GE531.out) | exact HB.out))) : w.heap.size ≤ gb532)); have n5_ := Aside0.mk ((by rw [hg]; exact (below_size (by repeat (first | (with_reducible first | exact HB.out | apply yA | apply yN | apply yD | refine below_set ?_ GE530.out | refine below_set ?_ GE531.out) | exact HB.out))) : w.heap.size ≤ gb532)); have n6_ := Aside0.mk ((by rw [hg]; exact Nat.ne_of_lt (blk_lt (g := gb530) (o := .cells #[.int .i64 a0_0, .int .i64 a0_1, .string a0_2] 61 (0, 0)) (by (with_reducible repeat (first | refine zN ?_ _ | refine zD ?_ | refine zA ?_ _)); exact BK530.out)) : gb530 ≠ gb532)); have n7_ := Aside0.mk ((by rw [hg]; exact Nat.ne_of_gt (blk_lt (g := gb530) (o := .cells #[.int .i64 a0_0, .int .i64 a0_1, .string a0_2] 61 (0, 0)) (by (with_reducible repeat (first | refine zN ?_ _ | refine zD ?_ | refine zA ?_ _)); exact BK530.out)) : gb532 ≠ gb530)); have n8_ := Aside0.mk ((by rw [hg]; exact Nat.ne_of_lt (blk_lt (g := gb531) (o := .cells #[.int .i64 a1_0, .bool a1_1] 88 (0, 0)) (by (with_reducible repeat (first | refine zN ?_ _ | refine zD ?_ | refine zA ?_ _)); exact BK531.out)) : gb531 ≠ gb532)); have n9_ := Aside0.mk ((by rw [hg]; exact Nat.ne_of_gt (blk_lt (g := gb531) (o := .cells #[.int .i64 a1_0, .bool a1_1] 88 (0, 0)) (by (with_reducible repeat (first | refine zN ?_ _ | refine zD ?_ | refine zA ?_ _)); exact BK531.out)) : gb532 ≠ gb531)); clear BK530; clear BK531; clear HB; have BK530 := n0_; have BK531 := n1_; have HB := n2_; have BK532 := n3_; have GW532 := n4_; have GE532 := n5_; have NB530_532 := n6_; have NB532_530 := n7_; have NB531_532 := n8_; have NB532_531 := n9_; clear n0_ n1_ n2_ n3_ n4_ n5_ n6_ n7_ n8_ n9_; clear hb hbox hg)))
 (try simp only [Act.put, List.setIfInBounds_toArray, List.set_cons_zero, List.set_cons_succ])
 go_cut [20] (fun v20 wc => ∃ (kq : Nat) (x20_2 : Bool), v20 = .bool x20_2 ∧ Aside0 (tacticianref01_TameAs.j0 kq x20_2 a0_0 a0_1 a0_2 a1_0 a1_1 = some (r1, r2, r3)) ∧ Aside0 (kq ≤ k) ∧ Aside0 (wc.heap[gb530]? = some (.cells #[.int .i64 a0_0, .int .i64 a0_1, .string a0_2] 61 (0, 0))) ∧ Aside0 (wc.heap[gb531]? = some (.cells #[.int .i64 a1_0, .bool a1_1] 88 (0, 0))) ∧ Aside0 (wc.heap[gb532]? = some (.cells #[.int .i64 0, .int .i64 0, .string (⟨#[]⟩ : ByteArray)] 61 (0, 0))) ∧ Aside0 (Below w.heap.size w wc))
 case first =>
  have H := HC3.out
  clear HC3
  by_cases c7 : a1_1 = true
  ·subst c7
   have H1 : (if a0_0 = 0 then (tacticianref01_TameAs.j0 k true a0_0 a0_1 a0_2 a1_0 true) else (tacticianref01_TameAs.j0 k ((Int.tmod (IntKind.u64.wrap (a0_1)) 5) == 4) a0_0 a0_1 a0_2 a1_0 true)) = some (r1, r2, r3) := by rw [if_pos rfl] at H; exact H
   clear H
   have H := H1
   clear H1
   by_cases c8 : a0_0 = 0
   ·rw [if_pos c8] at H
    have c8b0 : (a0_0 == 0) = true := beq_iff_eq.mpr c8
    have c8b1 : (a0_0 != 0) = false := bne_eq_false_iff_eq.mpr c8
    clear c8
    (first | rw [c8b0] | (simp only [i64_w, i32_w]; rw [c8b0]) | skip)
    have H' := Aside0.mk H
    clear H
    have hnb9 := NB531_530.out
    have hnc9 := NB530_531.out
    have hnb10 := NB531_532.out
    have hnc10 := NB532_531.out
    have hcz11_0 : w6.cell? ⟨gb531, 0, none⟩ = some (.int .i64 a1_0) := (blk_cell BK531.out 0).trans rfl
    have hcz11_1 : w6.cell? ⟨gb531, 1, none⟩ = some (.bool true) := (blk_cell BK531.out 1).trans rfl
    have hfz11_0 := blk_frozen BK531.out 0
    have hfz11_1 := blk_frozen BK531.out 1
    have hnb12 := NB530_532.out
    have hnc12 := NB532_530.out
    have hcz13_0 : w6.cell? ⟨gb530, 0, none⟩ = some (.int .i64 a0_0) := (blk_cell BK530.out 0).trans rfl
    have hcz13_1 : w6.cell? ⟨gb530, 1, none⟩ = some (.int .i64 a0_1) := (blk_cell BK530.out 1).trans rfl
    have hcz13_2 : w6.cell? ⟨gb530, 2, none⟩ = some (.string a0_2) := (blk_cell BK530.out 2).trans rfl
    have hfz13_0 := blk_frozen BK530.out 0
    have hfz13_1 := blk_frozen BK530.out 1
    have hfz13_2 := blk_frozen BK530.out 2
    go_wp2
    repeat (go_quiet (fail); try go_wp2)
    go_meet
    case rel => exact ⟨_, (true), (by first | rfl | (simp; done) | (simp [*]; done)), H', ⟨by first | omega | exact Nat.le_refl _⟩, ⟨by (with_reducible repeat (first | refine zN ?_ _ | refine zD ?_ | refine zA ?_ _)); exact BK530.out⟩, ⟨by (with_reducible repeat (first | refine zN ?_ _ | refine zD ?_ | refine zA ?_ _)); exact BK531.out⟩, ⟨by (with_reducible repeat (first | refine zN ?_ _ | refine zD ?_ | refine zA ?_ _)); exact BK532.out⟩, ⟨by repeat (first | (with_reducible first | exact HB.out | apply yA | apply yN | apply yD | refine below_set ?_ GE530.out | refine below_set ?_ GE531.out | refine below_set ?_ GE532.out) | exact HB.out)⟩⟩
   ·rw [if_neg c8] at H
    have c8b0 : (a0_0 == 0) = false := beq_eq_false_iff_ne.mpr c8
    have c8b1 : (a0_0 != 0) = true := bne_iff_ne.mpr c8
    (first | rw [c8b0] | (simp only [i64_w, i32_w]; rw [c8b0]) | skip)
    have H' := Aside0.mk H
    clear H
    have hnb14 := NB531_530.out
    have hnc14 := NB530_531.out
    have hnb15 := NB531_532.out
    have hnc15 := NB532_531.out
    have hcz16_0 : w6.cell? ⟨gb531, 0, none⟩ = some (.int .i64 a1_0) := (blk_cell BK531.out 0).trans rfl
    have hcz16_1 : w6.cell? ⟨gb531, 1, none⟩ = some (.bool true) := (blk_cell BK531.out 1).trans rfl
    have hfz16_0 := blk_frozen BK531.out 0
    have hfz16_1 := blk_frozen BK531.out 1
    have hnb17 := NB530_532.out
    have hnc17 := NB532_530.out
    have hcz18_0 : w6.cell? ⟨gb530, 0, none⟩ = some (.int .i64 a0_0) := (blk_cell BK530.out 0).trans rfl
    have hcz18_1 : w6.cell? ⟨gb530, 1, none⟩ = some (.int .i64 a0_1) := (blk_cell BK530.out 1).trans rfl
    have hcz18_2 : w6.cell? ⟨gb530, 2, none⟩ = some (.string a0_2) := (blk_cell BK530.out 2).trans rfl
    have hfz18_0 := blk_frozen BK530.out 0
    have hfz18_1 := blk_frozen BK530.out 1
    have hfz18_2 := blk_frozen BK530.out 2
    go_wp2
    repeat (go_quiet (fail); try go_wp2)
    go_meet
    case rel => exact ⟨_, (((Int.tmod (IntKind.u64.wrap (a0_1)) 5) == 4)), (by first | rfl | (simp; done) | (simp [*]; done)), H', ⟨by first | omega | exact Nat.le_refl _⟩, ⟨by (with_reducible repeat (first | refine zN ?_ _ | refine zD ?_ | refine zA ?_ _)); exact BK530.out⟩, ⟨by (with_reducible repeat (first | refine zN ?_ _ | refine zD ?_ | refine zA ?_ _)); exact BK531.out⟩, ⟨by (with_reducible repeat (first | refine zN ?_ _ | refine zD ?_ | refine zA ?_ _)); exact BK532.out⟩, ⟨by repeat (first | (with_reducible first | exact HB.out | apply yA | apply yN | apply yD | refine below_set ?_ GE530.out | refine below_set ?_ GE531.out | refine below_set ?_ GE532.out) | exact HB.out)⟩⟩
  ·replace c7 := Bool.eq_false_iff.mpr c7
   subst c7
   have H1 : (tacticianref01_TameAs.j0 k false a0_0 a0_1 a0_2 a1_0 false) = some (r1, r2, r3) := by rw [if_neg (show ¬ (false = true) by decide)] at H; exact H
   clear H
   have H := H1
   clear H1
   have H' := Aside0.mk H
   clear H
   have hnb19 := NB531_530.out
   have hnc19 := NB530_531.out
   have hnb20 := NB531_532.out
   have hnc20 := NB532_531.out
   have hcz21_0 : w6.cell? ⟨gb531, 0, none⟩ = some (.int .i64 a1_0) := (blk_cell BK531.out 0).trans rfl
   have hcz21_1 : w6.cell? ⟨gb531, 1, none⟩ = some (.bool false) := (blk_cell BK531.out 1).trans rfl
   have hfz21_0 := blk_frozen BK531.out 0
   have hfz21_1 := blk_frozen BK531.out 1
   go_wp2
   repeat (go_quiet (fail); try go_wp2)
   go_meet
   case rel => exact ⟨_, (false), (by first | rfl | (simp; done) | (simp [*]; done)), H', ⟨by first | omega | exact Nat.le_refl _⟩, ⟨by (with_reducible repeat (first | refine zN ?_ _ | refine zD ?_ | refine zA ?_ _)); exact BK530.out⟩, ⟨by (with_reducible repeat (first | refine zN ?_ _ | refine zD ?_ | refine zA ?_ _)); exact BK531.out⟩, ⟨by (with_reducible repeat (first | refine zN ?_ _ | refine zD ?_ | refine zA ?_ _)); exact BK532.out⟩, ⟨by repeat (first | (with_reducible first | exact HB.out | apply yA | apply yN | apply yD | refine below_set ?_ GE530.out | refine below_set ?_ GE531.out | refine below_set ?_ GE532.out) | exact HB.out)⟩⟩
 case rest =>
  clear HC3
  try clear c1
  try clear c2
  try clear p2
  try clear c7
  try clear c8
  try clear c8b0
  try clear c8b1
  try clear c9
  try clear c10
  try clear c11
  try clear c12
  try clear c14
  try clear c15
  try clear c17
  try clear c19
  try clear c20
  try clear hcz11_0
  try clear hcz11_1
  try clear hcz13_0
  try clear hcz13_1
  try clear hcz13_2
  try clear hcz16_0
  try clear hcz16_1
  try clear hcz18_0
  try clear hcz18_1
  try clear hcz18_2
  try clear hcz21_0
  try clear hcz21_1
  try clear hfz11_0
  try clear hfz11_1
  try clear hfz13_0
  try clear hfz13_1
  try clear hfz13_2
  try clear hfz16_0
  try clear hfz16_1
  try clear hfz18_0
  try clear hfz18_1
  try clear hfz18_2
  try clear hfz21_0
  try clear hfz21_1
  obtain ⟨kq, x20_2, rfl, HA, HJ2, BK530, BK531, BK532, HB⟩ := hcut
  cases kq with
  | zero => exact absurd HA.out (by simp [tacticianref01_TameAs.j0])
  | succ kj2 =>
   have H := HA.out
   clear HA
   simp only [tacticianref01_TameAs.j0] at H
   by_cases c22 : x20_2 = true
   ·subst c22
    have H1 : ((tacticianref01_Null.f).bind fun bt533 => (some (bt533.1, bt533.2.1, bt533.2.2))) = some (r1, r2, r3) := by rw [if_pos rfl] at H; exact H
    clear H
    have H := H1
    clear H1
    replace H := Option.bind_eq_some_iff.mp H
    obtain ⟨⟨t533, t534, t535⟩, A230, H⟩ := H
    replace H : (some (t533, t534, t535)) = some (r1, r2, r3) := H
    have A23 := Aside0.mk A230
    clear A230
    simp only [Option.some.injEq, Prod.mk.injEq] at H
    obtain ⟨rfl, rfl, rfl⟩ := H
    go_wp2_with (first | (go_at_call 141; (with_reducible refine (tacticianref01_Null.calls  t533 t534 t535 _ A23.out).mono ?_); rintro e w24 ⟨rfl, hb⟩; have n0_ := Aside0.mk (blk_below (g := gb530) (o := .cells #[.int .i64 a0_0, .int .i64 a0_1, .string a0_2] 61 (0, 0)) (by (with_reducible repeat (first | refine zN ?_ _ | refine zD ?_ | refine zA ?_ _)); exact BK530.out) hb); have n1_ := Aside0.mk (blk_below (g := gb531) (o := .cells #[.int .i64 a1_0, .bool a1_1] 88 (0, 0)) (by (with_reducible repeat (first | refine zN ?_ _ | refine zD ?_ | refine zA ?_ _)); exact BK531.out) hb); have n2_ := Aside0.mk (blk_below (g := gb532) (o := .cells #[.int .i64 0, .int .i64 0, .string (⟨#[]⟩ : ByteArray)] 61 (0, 0)) (by (with_reducible repeat (first | refine zN ?_ _ | refine zD ?_ | refine zA ?_ _)); exact BK532.out) hb); have n3_ := Aside0.mk (below_step (by repeat (first | (with_reducible first | exact HB.out | apply yA | apply yN | apply yD | refine below_set ?_ GE530.out | refine below_set ?_ GE531.out | refine below_set ?_ GE532.out) | exact HB.out)) hb); clear BK530; clear BK531; clear BK532; clear HB; have BK530 := n0_; have BK531 := n1_; have BK532 := n2_; have HB := n3_; clear n0_ n1_ n2_ n3_; (try clear hb); (try clear hb2); (try clear hk); (try clear hi); have hnb25 := NB532_530.out; have hnc25 := NB530_532.out; have hnb26 := NB532_531.out; have hnc26 := NB531_532.out; have hcz27_0 : w24.cell? ⟨gb532, 0, none⟩ = some (.int .i64 0) := (blk_cell BK532.out 0).trans rfl; have hcz27_1 : w24.cell? ⟨gb532, 1, none⟩ = some (.int .i64 0) := (blk_cell BK532.out 1).trans rfl; have hcz27_2 : w24.cell? ⟨gb532, 2, none⟩ = some (.string (⟨#[]⟩ : ByteArray)) := (blk_cell BK532.out 2).trans rfl; have hfz27_0 := blk_frozen BK532.out 0; have hfz27_1 := blk_frozen BK532.out 1; have hfz27_2 := blk_frozen BK532.out 2))
    repeat (go_quiet (first | (go_at_call 141; (with_reducible refine (tacticianref01_Null.calls  t533 t534 t535 _ A23.out).mono ?_); rintro e w24 ⟨rfl, hb⟩; have n0_ := Aside0.mk (blk_below (g := gb530) (o := .cells #[.int .i64 a0_0, .int .i64 a0_1, .string a0_2] 61 (0, 0)) (by (with_reducible repeat (first | refine zN ?_ _ | refine zD ?_ | refine zA ?_ _)); exact BK530.out) hb); have n1_ := Aside0.mk (blk_below (g := gb531) (o := .cells #[.int .i64 a1_0, .bool a1_1] 88 (0, 0)) (by (with_reducible repeat (first | refine zN ?_ _ | refine zD ?_ | refine zA ?_ _)); exact BK531.out) hb); have n2_ := Aside0.mk (blk_below (g := gb532) (o := .cells #[.int .i64 0, .int .i64 0, .string (⟨#[]⟩ : ByteArray)] 61 (0, 0)) (by (with_reducible repeat (first | refine zN ?_ _ | refine zD ?_ | refine zA ?_ _)); exact BK532.out) hb); have n3_ := Aside0.mk (below_step (by repeat (first | (with_reducible first | exact HB.out | apply yA | apply yN | apply yD | refine below_set ?_ GE530.out | refine below_set ?_ GE531.out | refine below_set ?_ GE532.out) | exact HB.out)) hb); clear BK530; clear BK531; clear BK532; clear HB; have BK530 := n0_; have BK531 := n1_; have BK532 := n2_; have HB := n3_; clear n0_ n1_ n2_ n3_; (try clear hb); (try clear hb2); (try clear hk); (try clear hi); have hnb25 := NB532_530.out; have hnc25 := NB530_532.out; have hnb26 := NB532_531.out; have hnc26 := NB531_532.out; have hcz27_0 : w24.cell? ⟨gb532, 0, none⟩ = some (.int .i64 0) := (blk_cell BK532.out 0).trans rfl; have hcz27_1 : w24.cell? ⟨gb532, 1, none⟩ = some (.int .i64 0) := (blk_cell BK532.out 1).trans rfl; have hcz27_2 : w24.cell? ⟨gb532, 2, none⟩ = some (.string (⟨#[]⟩ : ByteArray)) := (blk_cell BK532.out 2).trans rfl; have hfz27_0 := blk_frozen BK532.out 0; have hfz27_1 := blk_frozen BK532.out 1; have hfz27_2 := blk_frozen BK532.out 2)); try go_wp2_with (first | (go_at_call 141; (with_reducible refine (tacticianref01_Null.calls  t533 t534 t535 _ A23.out).mono ?_); rintro e w24 ⟨rfl, hb⟩; have n0_ := Aside0.mk (blk_below (g := gb530) (o := .cells #[.int .i64 a0_0, .int .i64 a0_1, .string a0_2] 61 (0, 0)) (by (with_reducible repeat (first | refine zN ?_ _ | refine zD ?_ | refine zA ?_ _)); exact BK530.out) hb); have n1_ := Aside0.mk (blk_below (g := gb531) (o := .cells #[.int .i64 a1_0, .bool a1_1] 88 (0, 0)) (by (with_reducible repeat (first | refine zN ?_ _ | refine zD ?_ | refine zA ?_ _)); exact BK531.out) hb); have n2_ := Aside0.mk (blk_below (g := gb532) (o := .cells #[.int .i64 0, .int .i64 0, .string (⟨#[]⟩ : ByteArray)] 61 (0, 0)) (by (with_reducible repeat (first | refine zN ?_ _ | refine zD ?_ | refine zA ?_ _)); exact BK532.out) hb); have n3_ := Aside0.mk (below_step (by repeat (first | (with_reducible first | exact HB.out | apply yA | apply yN | apply yD | refine below_set ?_ GE530.out | refine below_set ?_ GE531.out | refine below_set ?_ GE532.out) | exact HB.out)) hb); clear BK530; clear BK531; clear BK532; clear HB; have BK530 := n0_; have BK531 := n1_; have BK532 := n2_; have HB := n3_; clear n0_ n1_ n2_ n3_; (try clear hb); (try clear hb2); (try clear hk); (try clear hi); have hnb25 := NB532_530.out; have hnc25 := NB530_532.out; have hnb26 := NB532_531.out; have hnc26 := NB531_532.out; have hcz27_0 : w24.cell? ⟨gb532, 0, none⟩ = some (.int .i64 0) := (blk_cell BK532.out 0).trans rfl; have hcz27_1 : w24.cell? ⟨gb532, 1, none⟩ = some (.int .i64 0) := (blk_cell BK532.out 1).trans rfl; have hcz27_2 : w24.cell? ⟨gb532, 2, none⟩ = some (.string (⟨#[]⟩ : ByteArray)) := (blk_cell BK532.out 2).trans rfl; have hfz27_0 := blk_frozen BK532.out 0; have hfz27_1 := blk_frozen BK532.out 1; have hfz27_2 := blk_frozen BK532.out 2)))
    refine bodyPost_ret (results_cell_row rfl _ _ gb532 61 #[.int .i64 t533, .int .i64 t534, .string t535] (0, 0) _ rfl (by (with_reducible repeat (first | refine zN ?_ _ | refine zD ?_ | refine zA ?_ _)); refine blk_put (cs := #[.int .i64 t533, .int .i64 t534, .string (⟨#[]⟩ : ByteArray)]) ?_ 2 _ rfl; (with_reducible repeat (first | refine zN ?_ _ | refine zD ?_ | refine zA ?_ _)); refine blk_put (cs := #[.int .i64 t533, .int .i64 0, .string (⟨#[]⟩ : ByteArray)]) ?_ 1 _ rfl; (with_reducible repeat (first | refine zN ?_ _ | refine zD ?_ | refine zA ?_ _)); refine blk_put (cs := #[.int .i64 0, .int .i64 0, .string (⟨#[]⟩ : ByteArray)]) ?_ 0 _ rfl; (with_reducible repeat (first | refine zN ?_ _ | refine zD ?_ | refine zA ?_ _)); exact BK532.out) Tryz.underlying61 rfl (by kernel_rfl)) rfl ?_
    exact ⟨by first | rfl | (simp [errW_none, errW_some] <;> rfl) | (simp [*, errW_none, errW_some] <;> rfl), by repeat (first | (with_reducible first | exact HB.out | apply yA | apply yN | apply yD | refine below_set ?_ GE530.out | refine below_set ?_ GE531.out | refine below_set ?_ GE532.out) | exact HB.out)⟩
   ·replace c22 := Bool.eq_false_iff.mpr c22
    subst c22
    have H1 : (if a1_0 = 2 then ((tacticianref01_Bool.f ((Int.tmod a0_1 2) != 0)).bind fun bt536 => (some (bt536.1, bt536.2.1, bt536.2.2))) else (if a1_0 = 3 then (tacticianref01_TameAs.l0 kj2 (⟨#[]⟩ : ByteArray) 0 a0_0 a0_1 a0_2) else (if (Int.tmod (IntKind.u64.wrap (a0_1)) 16) = 15 then ((tacticianref01_Int.f a0_1).bind fun bt545 => (some (bt545.1, bt545.2.1, bt545.2.2))) else ((tacticianref01_Int.f (wrap64 ((wrap64 (Int.tmod (IntKind.u64.wrap (a0_1)) 7)) - 2))).bind fun bt548 => (some (bt548.1, bt548.2.1, bt548.2.2)))))) = some (r1, r2, r3) := by rw [if_neg (show ¬ (false = true) by decide)] at H; exact H
    clear H
    have H := H1
    clear H1
    by_cases c28 : a1_0 = 2
    ·rw [if_pos c28] at H
     have c28b0 : (a1_0 == 2) = true := beq_iff_eq.mpr c28
     have c28b1 : (a1_0 != 2) = false := bne_eq_false_iff_eq.mpr c28
     clear c28
     replace H := Option.bind_eq_some_iff.mp H
     obtain ⟨⟨t536, t537, t538⟩, A290, H⟩ := H
     replace H : (some (t536, t537, t538)) = some (r1, r2, r3) := H
     have A29 := Aside0.mk A290
     clear A290
     simp only [Option.some.injEq, Prod.mk.injEq] at H
     obtain ⟨rfl, rfl, rfl⟩ := H
     have hnb30 := NB531_530.out
     have hnc30 := NB530_531.out
     have hnb31 := NB531_532.out
     have hnc31 := NB532_531.out
     have hcz32_0 : wc.cell? ⟨gb531, 0, none⟩ = some (.int .i64 a1_0) := (blk_cell BK531.out 0).trans rfl
     have hcz32_1 : wc.cell? ⟨gb531, 1, none⟩ = some (.bool a1_1) := (blk_cell BK531.out 1).trans rfl
     have hfz32_0 := blk_frozen BK531.out 0
     have hfz32_1 := blk_frozen BK531.out 1
     have hnb33 := NB530_532.out
     have hnc33 := NB532_530.out
     have hcz34_0 : wc.cell? ⟨gb530, 0, none⟩ = some (.int .i64 a0_0) := (blk_cell BK530.out 0).trans rfl
     have hcz34_1 : wc.cell? ⟨gb530, 1, none⟩ = some (.int .i64 a0_1) := (blk_cell BK530.out 1).trans rfl
     have hcz34_2 : wc.cell? ⟨gb530, 2, none⟩ = some (.string a0_2) := (blk_cell BK530.out 2).trans rfl
     have hfz34_0 := blk_frozen BK530.out 0
     have hfz34_1 := blk_frozen BK530.out 1
     have hfz34_2 := blk_frozen BK530.out 2
     go_wp2_with (first | (go_at_call 142; (with_reducible refine (tacticianref01_Bool.calls ((Int.tmod a0_1 2) != 0) t536 t537 t538 _ A29.out).mono ?_); rintro e w35 ⟨rfl, hb⟩; have n0_ := Aside0.mk (blk_below (g := gb530) (o := .cells #[.int .i64 a0_0, .int .i64 a0_1, .string a0_2] 61 (0, 0)) (by (with_reducible repeat (first | refine zN ?_ _ | refine zD ?_ | refine zA ?_ _)); exact BK530.out) hb); have n1_ := Aside0.mk (blk_below (g := gb531) (o := .cells #[.int .i64 a1_0, .bool a1_1] 88 (0, 0)) (by (with_reducible repeat (first | refine zN ?_ _ | refine zD ?_ | refine zA ?_ _)); exact BK531.out) hb); have n2_ := Aside0.mk (blk_below (g := gb532) (o := .cells #[.int .i64 0, .int .i64 0, .string (⟨#[]⟩ : ByteArray)] 61 (0, 0)) (by (with_reducible repeat (first | refine zN ?_ _ | refine zD ?_ | refine zA ?_ _)); exact BK532.out) hb); have n3_ := Aside0.mk (below_step (by repeat (first | (with_reducible first | exact HB.out | apply yA | apply yN | apply yD | refine below_set ?_ GE530.out | refine below_set ?_ GE531.out | refine below_set ?_ GE532.out) | exact HB.out)) hb); clear BK530; clear BK531; clear BK532; clear HB; have BK530 := n0_; have BK531 := n1_; have BK532 := n2_; have HB := n3_; clear n0_ n1_ n2_ n3_; (try clear hb); (try clear hb2); (try clear hk); (try clear hi); have hcz36_0 : w35.cell? ⟨gb532, 0, none⟩ = some (.int .i64 0) := (blk_cell BK532.out 0).trans rfl; have hcz36_1 : w35.cell? ⟨gb532, 1, none⟩ = some (.int .i64 0) := (blk_cell BK532.out 1).trans rfl; have hcz36_2 : w35.cell? ⟨gb532, 2, none⟩ = some (.string (⟨#[]⟩ : ByteArray)) := (blk_cell BK532.out 2).trans rfl; have hfz36_0 := blk_frozen BK532.out 0; have hfz36_1 := blk_frozen BK532.out 1; have hfz36_2 := blk_frozen BK532.out 2))
     repeat (go_quiet (first | (go_at_call 142; (with_reducible refine (tacticianref01_Bool.calls ((Int.tmod a0_1 2) != 0) t536 t537 t538 _ A29.out).mono ?_); rintro e w35 ⟨rfl, hb⟩; have n0_ := Aside0.mk (blk_below (g := gb530) (o := .cells #[.int .i64 a0_0, .int .i64 a0_1, .string a0_2] 61 (0, 0)) (by (with_reducible repeat (first | refine zN ?_ _ | refine zD ?_ | refine zA ?_ _)); exact BK530.out) hb); have n1_ := Aside0.mk (blk_below (g := gb531) (o := .cells #[.int .i64 a1_0, .bool a1_1] 88 (0, 0)) (by (with_reducible repeat (first | refine zN ?_ _ | refine zD ?_ | refine zA ?_ _)); exact BK531.out) hb); have n2_ := Aside0.mk (blk_below (g := gb532) (o := .cells #[.int .i64 0, .int .i64 0, .string (⟨#[]⟩ : ByteArray)] 61 (0, 0)) (by (with_reducible repeat (first | refine zN ?_ _ | refine zD ?_ | refine zA ?_ _)); exact BK532.out) hb); have n3_ := Aside0.mk (below_step (by repeat (first | (with_reducible first | exact HB.out | apply yA | apply yN | apply yD | refine below_set ?_ GE530.out | refine below_set ?_ GE531.out | refine below_set ?_ GE532.out) | exact HB.out)) hb); clear BK530; clear BK531; clear BK532; clear HB; have BK530 := n0_; have BK531 := n1_; have BK532 := n2_; have HB := n3_; clear n0_ n1_ n2_ n3_; (try clear hb); (try clear hb2); (try clear hk); (try clear hi); have hcz36_0 : w35.cell? ⟨gb532, 0, none⟩ = some (.int .i64 0) := (blk_cell BK532.out 0).trans rfl; have hcz36_1 : w35.cell? ⟨gb532, 1, none⟩ = some (.int .i64 0) := (blk_cell BK532.out 1).trans rfl; have hcz36_2 : w35.cell? ⟨gb532, 2, none⟩ = some (.string (⟨#[]⟩ : ByteArray)) := (blk_cell BK532.out 2).trans rfl; have hfz36_0 := blk_frozen BK532.out 0; have hfz36_1 := blk_frozen BK532.out 1; have hfz36_2 := blk_frozen BK532.out 2)); try go_wp2_with (first | (go_at_call 142; (with_reducible refine (tacticianref01_Bool.calls ((Int.tmod a0_1 2) != 0) t536 t537 t538 _ A29.out).mono ?_); rintro e w35 ⟨rfl, hb⟩; have n0_ := Aside0.mk (blk_below (g := gb530) (o := .cells #[.int .i64 a0_0, .int .i64 a0_1, .string a0_2] 61 (0, 0)) (by (with_reducible repeat (first | refine zN ?_ _ | refine zD ?_ | refine zA ?_ _)); exact BK530.out) hb); have n1_ := Aside0.mk (blk_below (g := gb531) (o := .cells #[.int .i64 a1_0, .bool a1_1] 88 (0, 0)) (by (with_reducible repeat (first | refine zN ?_ _ | refine zD ?_ | refine zA ?_ _)); exact BK531.out) hb); have n2_ := Aside0.mk (blk_below (g := gb532) (o := .cells #[.int .i64 0, .int .i64 0, .string (⟨#[]⟩ : ByteArray)] 61 (0, 0)) (by (with_reducible repeat (first | refine zN ?_ _ | refine zD ?_ | refine zA ?_ _)); exact BK532.out) hb); have n3_ := Aside0.mk (below_step (by repeat (first | (with_reducible first | exact HB.out | apply yA | apply yN | apply yD | refine below_set ?_ GE530.out | refine below_set ?_ GE531.out | refine below_set ?_ GE532.out) | exact HB.out)) hb); clear BK530; clear BK531; clear BK532; clear HB; have BK530 := n0_; have BK531 := n1_; have BK532 := n2_; have HB := n3_; clear n0_ n1_ n2_ n3_; (try clear hb); (try clear hb2); (try clear hk); (try clear hi); have hcz36_0 : w35.cell? ⟨gb532, 0, none⟩ = some (.int .i64 0) := (blk_cell BK532.out 0).trans rfl; have hcz36_1 : w35.cell? ⟨gb532, 1, none⟩ = some (.int .i64 0) := (blk_cell BK532.out 1).trans rfl; have hcz36_2 : w35.cell? ⟨gb532, 2, none⟩ = some (.string (⟨#[]⟩ : ByteArray)) := (blk_cell BK532.out 2).trans rfl; have hfz36_0 := blk_frozen BK532.out 0; have hfz36_1 := blk_frozen BK532.out 1; have hfz36_2 := blk_frozen BK532.out 2)))
     refine bodyPost_ret (results_cell_row rfl _ _ gb532 61 #[.int .i64 t536, .int .i64 t537, .string t538] (0, 0) _ rfl (by (with_reducible repeat (first | refine zN ?_ _ | refine zD ?_ | refine zA ?_ _)); refine blk_put (cs := #[.int .i64 t536, .int .i64 t537, .string (⟨#[]⟩ : ByteArray)]) ?_ 2 _ rfl; (with_reducible repeat (first | refine zN ?_ _ | refine zD ?_ | refine zA ?_ _)); refine blk_put (cs := #[.int .i64 t536, .int .i64 0, .string (⟨#[]⟩ : ByteArray)]) ?_ 1 _ rfl; (with_reducible repeat (first | refine zN ?_ _ | refine zD ?_ | refine zA ?_ _)); refine blk_put (cs := #[.int .i64 0, .int .i64 0, .string (⟨#[]⟩ : ByteArray)]) ?_ 0 _ rfl; (with_reducible repeat (first | refine zN ?_ _ | refine zD ?_ | refine zA ?_ _)); exact BK532.out) Tryz.underlying61 rfl (by kernel_rfl)) rfl ?_
     exact ⟨by first | rfl | (simp [errW_none, errW_some] <;> rfl) | (simp [*, errW_none, errW_some] <;> rfl), by repeat (first | (with_reducible first | exact HB.out | apply yA | apply yN | apply yD | refine below_set ?_ GE530.out | refine below_set ?_ GE531.out | refine below_set ?_ GE532.out) | exact HB.out)⟩
    ·rw [if_neg c28] at H
     have c28b0 : (a1_0 == 2) = false := beq_eq_false_iff_ne.mpr c28
     have c28b1 : (a1_0 != 2) = true := bne_iff_ne.mpr c28
     by_cases c37 : a1_0 = 3
     ·rw [if_pos c37] at H
      have c37b0 : (a1_0 == 3) = true := beq_iff_eq.mpr c37
      have c37b1 : (a1_0 != 3) = false := bne_eq_false_iff_eq.mpr c37
      clear c37
      have H' := Aside0.mk H
      clear H
      have hnb38 := NB531_530.out
      have hnc38 := NB530_531.out
      have hnb39 := NB531_532.out
      have hnc39 := NB532_531.out
      have hcz40_0 : wc.cell? ⟨gb531, 0, none⟩ = some (.int .i64 a1_0) := (blk_cell BK531.out 0).trans rfl
      have hcz40_1 : wc.cell? ⟨gb531, 1, none⟩ = some (.bool a1_1) := (blk_cell BK531.out 1).trans rfl
      have hfz40_0 := blk_frozen BK531.out 0
      have hfz40_1 := blk_frozen BK531.out 1
      go_wp2
      repeat (go_quiet (fail); try go_wp2)
      go_loopg [5, 6] kj2 (fun kq v5 v6 w' => ∃ (x5_2 : ByteArray) (x6_2 : Int), v5 = .string x5_2 ∧ v6 = .int .i64 x6_2 ∧ Aside0 (tacticianref01_TameAs.l0 kq x5_2 x6_2 a0_0 a0_1 a0_2 = some (r1, r2, r3)) ∧ Aside0 (kq ≤ kj2) ∧ Aside0 (w'.heap[gb530]? = some (.cells #[.int .i64 a0_0, .int .i64 a0_1, .string a0_2] 61 (0, 0))) ∧ Aside0 (w'.heap[gb531]? = some (.cells #[.int .i64 a1_0, .bool a1_1] 88 (0, 0))) ∧ Aside0 (w'.heap[gb532]? = some (.cells #[.int .i64 0, .int .i64 0, .string (⟨#[]⟩ : ByteArray)] 61 (0, 0))) ∧ Aside0 (Below w.heap.size w w'))
      case atStart => exact ⟨((⟨#[]⟩ : ByteArray)), (0), (by first | rfl | (simp; done) | (simp [*]; done)), (by first | rfl | (simp; done) | (simp [*]; done)), H', ⟨Nat.le_refl _⟩, ⟨by (with_reducible repeat (first | refine zN ?_ _ | refine zD ?_ | refine zA ?_ _)); exact BK530.out⟩, ⟨by (with_reducible repeat (first | refine zN ?_ _ | refine zD ?_ | refine zA ?_ _)); exact BK531.out⟩, ⟨by (with_reducible repeat (first | refine zN ?_ _ | refine zD ?_ | refine zA ?_ _)); exact BK532.out⟩, ⟨by repeat (first | (with_reducible first | exact HB.out | apply yA | apply yN | apply yD | refine below_set ?_ GE530.out | refine below_set ?_ GE531.out | refine below_set ?_ GE532.out) | exact HB.out)⟩⟩
      case round =>
       clear H'
       try clear c1
       try clear c2
       try clear p2
       try clear c3
       try clear p6
       try clear c7
       try clear c8
       try clear c8b0
       try clear c8b1
       try clear c9
       try clear c10
       try clear c11
       try clear c12
       try clear c14
       try clear c15
       try clear c17
       try clear c19
       try clear c20
       try clear c22
       try clear c25
       try clear c26
       try clear c28
       try clear c28b0
       try clear c28b1
       try clear c30
       try clear c31
       try clear c33
       try clear c37
       try clear c37b0
       try clear c37b1
       try clear c38
       try clear c39
       try clear hcz11_0
       try clear hcz11_1
       try clear hcz13_0
       try clear hcz13_1
       try clear hcz13_2
       try clear hcz16_0
       try clear hcz16_1
       try clear hcz18_0
       try clear hcz18_1
       try clear hcz18_2
       try clear hcz21_0
       try clear hcz21_1
       try clear hcz27_0
       try clear hcz27_1
       try clear hcz27_2
       try clear hcz32_0
       try clear hcz32_1
       try clear hcz34_0
       try clear hcz34_1
       try clear hcz34_2
       try clear hcz36_0
       try clear hcz36_1
       try clear hcz36_2
       try clear hcz40_0
       try clear hcz40_1
       try clear hfz11_0
       try clear hfz11_1
       try clear hfz13_0
       try clear hfz13_1
       try clear hfz13_2
       try clear hfz16_0
       try clear hfz16_1
       try clear hfz18_0
       try clear hfz18_1
       try clear hfz18_2
       try clear hfz21_0
       try clear hfz21_1
       try clear hfz27_0
       try clear hfz27_1
       try clear hfz27_2
       try clear hfz32_0
       try clear hfz32_1
       try clear hfz34_0
       try clear hfz34_1
       try clear hfz34_2
       try clear hfz36_0
       try clear hfz36_1
       try clear hfz36_2
       try clear hfz40_0
       try clear hfz40_1
       try clear p2
       obtain ⟨x5_2, x6_2, rfl, rfl, HA, HK2, BK530, BK531, BK532, HB⟩ := hrel
       cases gk with
       | zero => exact absurd HA.out (by simp [tacticianref01_TameAs.l0])
       | succ k2 =>
        have H := HA.out
        clear HA
        simp only [tacticianref01_TameAs.l0] at H
        by_cases c41 : x6_2 < (a0_2.size : Int)
        ·rw [if_pos c41] at H
         have c41b0 : decide (x6_2 < (a0_2.size : Int)) = true := decide_eq_true c41
         clear c41
         by_cases c42 : x6_2 < 3
         ·rw [if_pos c42] at H
          have c42b0 : decide (x6_2 < 3) = true := decide_eq_true c42
          clear c42
          by_cases c43 : 0 ≤ x6_2
          ·rw [if_pos c43] at H
           have c43b0 : decide (0 ≤ x6_2) = true := decide_eq_true c43
           clear c43
           obtain ⟨ji46, hji46⟩ : ∃ j_ : Int, (Int.tmod (bt a0_2 x6_2) 3) = j_ := ⟨_, rfl⟩
           replace H : (if 0 ≤ (ji46) then (if (ji46) ≤ (((ji46) + 1) % 256) then (if (((ji46) + 1) % 256) ≤ 3 then (if x5_2.size + ((⟨#[97, 98, 39]⟩ : ByteArray).extract ((ji46) : Int).toNat ((((ji46) + 1) % 256) : Int).toNat).size ≤ 9223372036854775807 then (tacticianref01_TameAs.l0 k2 (x5_2 ++ ((⟨#[97, 98, 39]⟩ : ByteArray).extract ((ji46) : Int).toNat ((((ji46) + 1) % 256) : Int).toNat)) (wrap64 (x6_2 + 1)) a0_0 a0_1 a0_2) else (none)) else (none)) else (none)) else (none)) = some (r1, r2, r3) := by first | (rw [hji46] at H; exact H) | (simp only [hji46] at H ⊢; exact H)
           by_cases c47 : 0 ≤ (ji46)
           ·rw [if_pos c47] at H
            have c47b0 := eq_true c47
            have c47b1 : decide (0 ≤ (ji46)) = true := decide_eq_true c47
            clear c47
            by_cases c48 : (ji46) ≤ (((ji46) + 1) % 256)
            ·rw [if_pos c48] at H
             have c48b0 := eq_true c48
             have c48b1 : decide ((ji46) ≤ (((ji46) + 1) % 256)) = true := decide_eq_true c48
             by_cases c49 : (((ji46) + 1) % 256) ≤ 3
             ·rw [if_pos c49] at H
              have c49b0 := eq_true c49
              have c49b1 : decide ((((ji46) + 1) % 256) ≤ 3) = true := decide_eq_true c49
              by_cases c50 : x5_2.size + ((⟨#[97, 98, 39]⟩ : ByteArray).extract ((ji46) : Int).toNat ((((ji46) + 1) % 256) : Int).toNat).size ≤ 9223372036854775807
              ·rw [if_pos c50] at H
               have c50b0 := eq_true c50
               have c50b1 : decide (x5_2.size + ((⟨#[97, 98, 39]⟩ : ByteArray).extract ((ji46) : Int).toNat ((((ji46) + 1) % 256) : Int).toNat).size ≤ 9223372036854775807) = true := decide_eq_true c50
               try have c50b2 : (9223372036854775807 < x5_2.size + ((⟨#[97, 98, 39]⟩ : ByteArray).extract ((ji46) : Int).toNat ((((ji46) + 1) % 256) : Int).toNat).size) = False := eq_false (Nat.not_lt.2 c50)
               have H' := Aside0.mk H
               clear H
               have hnb51 := NB530_531.out
               have hnc51 := NB531_530.out
               have hnb52 := NB530_532.out
               have hnc52 := NB532_530.out
               have hcz53_0 : wr.cell? ⟨gb530, 0, none⟩ = some (.int .i64 a0_0) := (blk_cell BK530.out 0).trans rfl
               have hcz53_1 : wr.cell? ⟨gb530, 1, none⟩ = some (.int .i64 a0_1) := (blk_cell BK530.out 1).trans rfl
               have hcz53_2 : wr.cell? ⟨gb530, 2, none⟩ = some (.string a0_2) := (blk_cell BK530.out 2).trans rfl
               have hfz53_0 := blk_frozen BK530.out 0
               have hfz53_1 := blk_frozen BK530.out 1
               have hfz53_2 := blk_frozen BK530.out 2
               have p44 : 0 ≤ (x6_2 : Int) := of_decide_eq_true (by first | (with_reducible assumption) | assumption)
               have q44 : x6_2 < (a0_2.size : Int) := of_decide_eq_true (by first | (with_reducible assumption) | assumption)
               have hx44 := bt_at a0_2 x6_2
               replace p44 := eq_true p44
               replace q44 := eq_true q44
               have p45 : 0 ≤ (x6_2 : Int) := of_decide_eq_true (by first | (with_reducible assumption) | assumption)
               have q45 : x6_2 < (a0_2.size : Int) := of_decide_eq_true (by first | (with_reducible assumption) | assumption)
               have hx45 := bt_at a0_2 x6_2
               replace p45 := eq_true p45
               replace q45 := eq_true q45
               go_wp2
               repeat (go_quiet (fail); try go_wp2)
               go_roundg k2
               case measure => have := HJ2.out; have := HK2.out; omega
               case rel => exact ⟨(x5_2 ++ ((⟨#[97, 98, 39]⟩ : ByteArray).extract ((ji46) : Int).toNat ((((ji46) + 1) % 256) : Int).toNat)), (wrap64 (x6_2 + 1)), (by first | rfl | (simp; done) | (simp only [← hji46] <;> (first | rfl | simp)) | (simp [*]; done)), (by first | rfl | (simp; done) | (simp [*]; done)), H', ⟨by have := HJ2.out; have := HK2.out; omega⟩, ⟨by (with_reducible repeat (first | refine zN ?_ _ | refine zD ?_ | refine zA ?_ _)); exact BK530.out⟩, ⟨by (with_reducible repeat (first | refine zN ?_ _ | refine zD ?_ | refine zA ?_ _)); exact BK531.out⟩, ⟨by (with_reducible repeat (first | refine zN ?_ _ | refine zD ?_ | refine zA ?_ _)); exact BK532.out⟩, ⟨by repeat (first | (with_reducible first | exact HB.out | apply yA | apply yN | apply yD | refine below_set ?_ GE530.out | refine below_set ?_ GE531.out | refine below_set ?_ GE532.out) | exact HB.out)⟩⟩
              ·rw [if_neg c50] at H
               exact absurd H (by simp)
             ·rw [if_neg c49] at H
              exact absurd H (by simp)
            ·rw [if_neg c48] at H
             exact absurd H (by simp)
           ·rw [if_neg c47] at H
            exact absurd H (by simp)
          ·rw [if_neg c43] at H
           exact absurd H (by simp)
         ·rw [if_neg c42] at H
          have c42b0 : decide (x6_2 < 3) = false := decide_eq_false c42
          clear c42
          replace H := Option.bind_eq_some_iff.mp H
          obtain ⟨⟨t539, t540, t541⟩, A540, H⟩ := H
          replace H : (some (t539, t540, t541)) = some (r1, r2, r3) := H
          have A54 := Aside0.mk A540
          clear A540
          simp only [Option.some.injEq, Prod.mk.injEq] at H
          obtain ⟨rfl, rfl, rfl⟩ := H
          have hnb55 := NB530_531.out
          have hnc55 := NB531_530.out
          have hnb56 := NB530_532.out
          have hnc56 := NB532_530.out
          have hcz57_0 : wr.cell? ⟨gb530, 0, none⟩ = some (.int .i64 a0_0) := (blk_cell BK530.out 0).trans rfl
          have hcz57_1 : wr.cell? ⟨gb530, 1, none⟩ = some (.int .i64 a0_1) := (blk_cell BK530.out 1).trans rfl
          have hcz57_2 : wr.cell? ⟨gb530, 2, none⟩ = some (.string a0_2) := (blk_cell BK530.out 2).trans rfl
          have hfz57_0 := blk_frozen BK530.out 0
          have hfz57_1 := blk_frozen BK530.out 1
          have hfz57_2 := blk_frozen BK530.out 2
          go_wp2_with (first | (go_at_call 143; (with_reducible refine (tacticianref01_Text.calls x5_2 t539 t540 t541 _ A54.out).mono ?_); rintro e w58 ⟨rfl, hb⟩; have n0_ := Aside0.mk (blk_below (g := gb530) (o := .cells #[.int .i64 a0_0, .int .i64 a0_1, .string a0_2] 61 (0, 0)) (by (with_reducible repeat (first | refine zN ?_ _ | refine zD ?_ | refine zA ?_ _)); exact BK530.out) hb); have n1_ := Aside0.mk (blk_below (g := gb531) (o := .cells #[.int .i64 a1_0, .bool a1_1] 88 (0, 0)) (by (with_reducible repeat (first | refine zN ?_ _ | refine zD ?_ | refine zA ?_ _)); exact BK531.out) hb); have n2_ := Aside0.mk (blk_below (g := gb532) (o := .cells #[.int .i64 0, .int .i64 0, .string (⟨#[]⟩ : ByteArray)] 61 (0, 0)) (by (with_reducible repeat (first | refine zN ?_ _ | refine zD ?_ | refine zA ?_ _)); exact BK532.out) hb); have n3_ := Aside0.mk (below_step (by repeat (first | (with_reducible first | exact HB.out | apply yA | apply yN | apply yD | refine below_set ?_ GE530.out | refine below_set ?_ GE531.out | refine below_set ?_ GE532.out) | exact HB.out)) hb); clear BK530; clear BK531; clear BK532; clear HB; have BK530 := n0_; have BK531 := n1_; have BK532 := n2_; have HB := n3_; clear n0_ n1_ n2_ n3_; (try clear hb); (try clear hb2); (try clear hk); (try clear hi); have hnb59 := NB532_531.out; have hnc59 := NB531_532.out; have hcz60_0 : w58.cell? ⟨gb532, 0, none⟩ = some (.int .i64 0) := (blk_cell BK532.out 0).trans rfl; have hcz60_1 : w58.cell? ⟨gb532, 1, none⟩ = some (.int .i64 0) := (blk_cell BK532.out 1).trans rfl; have hcz60_2 : w58.cell? ⟨gb532, 2, none⟩ = some (.string (⟨#[]⟩ : ByteArray)) := (blk_cell BK532.out 2).trans rfl; have hfz60_0 := blk_frozen BK532.out 0; have hfz60_1 := blk_frozen BK532.out 1; have hfz60_2 := blk_frozen BK532.out 2))
          repeat (go_quiet (first | (go_at_call 143; (with_reducible refine (tacticianref01_Text.calls x5_2 t539 t540 t541 _ A54.out).mono ?_); rintro e w58 ⟨rfl, hb⟩; have n0_ := Aside0.mk (blk_below (g := gb530) (o := .cells #[.int .i64 a0_0, .int .i64 a0_1, .string a0_2] 61 (0, 0)) (by (with_reducible repeat (first | refine zN ?_ _ | refine zD ?_ | refine zA ?_ _)); exact BK530.out) hb); have n1_ := Aside0.mk (blk_below (g := gb531) (o := .cells #[.int .i64 a1_0, .bool a1_1] 88 (0, 0)) (by (with_reducible repeat (first | refine zN ?_ _ | refine zD ?_ | refine zA ?_ _)); exact BK531.out) hb); have n2_ := Aside0.mk (blk_below (g := gb532) (o := .cells #[.int .i64 0, .int .i64 0, .string (⟨#[]⟩ : ByteArray)] 61 (0, 0)) (by (with_reducible repeat (first | refine zN ?_ _ | refine zD ?_ | refine zA ?_ _)); exact BK532.out) hb); have n3_ := Aside0.mk (below_step (by repeat (first | (with_reducible first | exact HB.out | apply yA | apply yN | apply yD | refine below_set ?_ GE530.out | refine below_set ?_ GE531.out | refine below_set ?_ GE532.out) | exact HB.out)) hb); clear BK530; clear BK531; clear BK532; clear HB; have BK530 := n0_; have BK531 := n1_; have BK532 := n2_; have HB := n3_; clear n0_ n1_ n2_ n3_; (try clear hb); (try clear hb2); (try clear hk); (try clear hi); have hnb59 := NB532_531.out; have hnc59 := NB531_532.out; have hcz60_0 : w58.cell? ⟨gb532, 0, none⟩ = some (.int .i64 0) := (blk_cell BK532.out 0).trans rfl; have hcz60_1 : w58.cell? ⟨gb532, 1, none⟩ = some (.int .i64 0) := (blk_cell BK532.out 1).trans rfl; have hcz60_2 : w58.cell? ⟨gb532, 2, none⟩ = some (.string (⟨#[]⟩ : ByteArray)) := (blk_cell BK532.out 2).trans rfl; have hfz60_0 := blk_frozen BK532.out 0; have hfz60_1 := blk_frozen BK532.out 1; have hfz60_2 := blk_frozen BK532.out 2)); try go_wp2_with (first | (go_at_call 143; (with_reducible refine (tacticianref01_Text.calls x5_2 t539 t540 t541 _ A54.out).mono ?_); rintro e w58 ⟨rfl, hb⟩; have n0_ := Aside0.mk (blk_below (g := gb530) (o := .cells #[.int .i64 a0_0, .int .i64 a0_1, .string a0_2] 61 (0, 0)) (by (with_reducible repeat (first | refine zN ?_ _ | refine zD ?_ | refine zA ?_ _)); exact BK530.out) hb); have n1_ := Aside0.mk (blk_below (g := gb531) (o := .cells #[.int .i64 a1_0, .bool a1_1] 88 (0, 0)) (by (with_reducible repeat (first | refine zN ?_ _ | refine zD ?_ | refine zA ?_ _)); exact BK531.out) hb); have n2_ := Aside0.mk (blk_below (g := gb532) (o := .cells #[.int .i64 0, .int .i64 0, .string (⟨#[]⟩ : ByteArray)] 61 (0, 0)) (by (with_reducible repeat (first | refine zN ?_ _ | refine zD ?_ | refine zA ?_ _)); exact BK532.out) hb); have n3_ := Aside0.mk (below_step (by repeat (first | (with_reducible first | exact HB.out | apply yA | apply yN | apply yD | refine below_set ?_ GE530.out | refine below_set ?_ GE531.out | refine below_set ?_ GE532.out) | exact HB.out)) hb); clear BK530; clear BK531; clear BK532; clear HB; have BK530 := n0_; have BK531 := n1_; have BK532 := n2_; have HB := n3_; clear n0_ n1_ n2_ n3_; (try clear hb); (try clear hb2); (try clear hk); (try clear hi); have hnb59 := NB532_531.out; have hnc59 := NB531_532.out; have hcz60_0 : w58.cell? ⟨gb532, 0, none⟩ = some (.int .i64 0) := (blk_cell BK532.out 0).trans rfl; have hcz60_1 : w58.cell? ⟨gb532, 1, none⟩ = some (.int .i64 0) := (blk_cell BK532.out 1).trans rfl; have hcz60_2 : w58.cell? ⟨gb532, 2, none⟩ = some (.string (⟨#[]⟩ : ByteArray)) := (blk_cell BK532.out 2).trans rfl; have hfz60_0 := blk_frozen BK532.out 0; have hfz60_1 := blk_frozen BK532.out 1; have hfz60_2 := blk_frozen BK532.out 2)))
          refine bodyPost_ret (results_cell_row rfl _ _ gb532 61 #[.int .i64 t539, .int .i64 t540, .string t541] (0, 0) _ rfl (by (with_reducible repeat (first | refine zN ?_ _ | refine zD ?_ | refine zA ?_ _)); refine blk_put (cs := #[.int .i64 t539, .int .i64 t540, .string (⟨#[]⟩ : ByteArray)]) ?_ 2 _ rfl; (with_reducible repeat (first | refine zN ?_ _ | refine zD ?_ | refine zA ?_ _)); refine blk_put (cs := #[.int .i64 t539, .int .i64 0, .string (⟨#[]⟩ : ByteArray)]) ?_ 1 _ rfl; (with_reducible repeat (first | refine zN ?_ _ | refine zD ?_ | refine zA ?_ _)); refine blk_put (cs := #[.int .i64 0, .int .i64 0, .string (⟨#[]⟩ : ByteArray)]) ?_ 0 _ rfl; (with_reducible repeat (first | refine zN ?_ _ | refine zD ?_ | refine zA ?_ _)); exact BK532.out) Tryz.underlying61 rfl (by kernel_rfl)) rfl ?_
          exact ⟨by first | rfl | (simp [errW_none, errW_some] <;> rfl) | (simp [*, errW_none, errW_some] <;> rfl), by repeat (first | (with_reducible first | exact HB.out | apply yA | apply yN | apply yD | refine below_set ?_ GE530.out | refine below_set ?_ GE531.out | refine below_set ?_ GE532.out) | exact HB.out)⟩
        ·rw [if_neg c41] at H
         have c41b0 : decide (x6_2 < (a0_2.size : Int)) = false := decide_eq_false c41
         clear c41
         replace H := Option.bind_eq_some_iff.mp H
         obtain ⟨⟨t542, t543, t544⟩, A610, H⟩ := H
         replace H : (some (t542, t543, t544)) = some (r1, r2, r3) := H
         have A61 := Aside0.mk A610
         clear A610
         simp only [Option.some.injEq, Prod.mk.injEq] at H
         obtain ⟨rfl, rfl, rfl⟩ := H
         have hnb62 := NB530_531.out
         have hnc62 := NB531_530.out
         have hnb63 := NB530_532.out
         have hnc63 := NB532_530.out
         have hcz64_0 : wr.cell? ⟨gb530, 0, none⟩ = some (.int .i64 a0_0) := (blk_cell BK530.out 0).trans rfl
         have hcz64_1 : wr.cell? ⟨gb530, 1, none⟩ = some (.int .i64 a0_1) := (blk_cell BK530.out 1).trans rfl
         have hcz64_2 : wr.cell? ⟨gb530, 2, none⟩ = some (.string a0_2) := (blk_cell BK530.out 2).trans rfl
         have hfz64_0 := blk_frozen BK530.out 0
         have hfz64_1 := blk_frozen BK530.out 1
         have hfz64_2 := blk_frozen BK530.out 2
         go_wp2_with (first | (go_at_call 143; (with_reducible refine (tacticianref01_Text.calls x5_2 t542 t543 t544 _ A61.out).mono ?_); rintro e w65 ⟨rfl, hb⟩; have n0_ := Aside0.mk (blk_below (g := gb530) (o := .cells #[.int .i64 a0_0, .int .i64 a0_1, .string a0_2] 61 (0, 0)) (by (with_reducible repeat (first | refine zN ?_ _ | refine zD ?_ | refine zA ?_ _)); exact BK530.out) hb); have n1_ := Aside0.mk (blk_below (g := gb531) (o := .cells #[.int .i64 a1_0, .bool a1_1] 88 (0, 0)) (by (with_reducible repeat (first | refine zN ?_ _ | refine zD ?_ | refine zA ?_ _)); exact BK531.out) hb); have n2_ := Aside0.mk (blk_below (g := gb532) (o := .cells #[.int .i64 0, .int .i64 0, .string (⟨#[]⟩ : ByteArray)] 61 (0, 0)) (by (with_reducible repeat (first | refine zN ?_ _ | refine zD ?_ | refine zA ?_ _)); exact BK532.out) hb); have n3_ := Aside0.mk (below_step (by repeat (first | (with_reducible first | exact HB.out | apply yA | apply yN | apply yD | refine below_set ?_ GE530.out | refine below_set ?_ GE531.out | refine below_set ?_ GE532.out) | exact HB.out)) hb); clear BK530; clear BK531; clear BK532; clear HB; have BK530 := n0_; have BK531 := n1_; have BK532 := n2_; have HB := n3_; clear n0_ n1_ n2_ n3_; (try clear hb); (try clear hb2); (try clear hk); (try clear hi); have hnb66 := NB532_531.out; have hnc66 := NB531_532.out; have hcz67_0 : w65.cell? ⟨gb532, 0, none⟩ = some (.int .i64 0) := (blk_cell BK532.out 0).trans rfl; have hcz67_1 : w65.cell? ⟨gb532, 1, none⟩ = some (.int .i64 0) := (blk_cell BK532.out 1).trans rfl; have hcz67_2 : w65.cell? ⟨gb532, 2, none⟩ = some (.string (⟨#[]⟩ : ByteArray)) := (blk_cell BK532.out 2).trans rfl; have hfz67_0 := blk_frozen BK532.out 0; have hfz67_1 := blk_frozen BK532.out 1; have hfz67_2 := blk_frozen BK532.out 2))
         repeat (go_quiet (first | (go_at_call 143; (with_reducible refine (tacticianref01_Text.calls x5_2 t542 t543 t544 _ A61.out).mono ?_); rintro e w65 ⟨rfl, hb⟩; have n0_ := Aside0.mk (blk_below (g := gb530) (o := .cells #[.int .i64 a0_0, .int .i64 a0_1, .string a0_2] 61 (0, 0)) (by (with_reducible repeat (first | refine zN ?_ _ | refine zD ?_ | refine zA ?_ _)); exact BK530.out) hb); have n1_ := Aside0.mk (blk_below (g := gb531) (o := .cells #[.int .i64 a1_0, .bool a1_1] 88 (0, 0)) (by (with_reducible repeat (first | refine zN ?_ _ | refine zD ?_ | refine zA ?_ _)); exact BK531.out) hb); have n2_ := Aside0.mk (blk_below (g := gb532) (o := .cells #[.int .i64 0, .int .i64 0, .string (⟨#[]⟩ : ByteArray)] 61 (0, 0)) (by (with_reducible repeat (first | refine zN ?_ _ | refine zD ?_ | refine zA ?_ _)); exact BK532.out) hb); have n3_ := Aside0.mk (below_step (by repeat (first | (with_reducible first | exact HB.out | apply yA | apply yN | apply yD | refine below_set ?_ GE530.out | refine below_set ?_ GE531.out | refine below_set ?_ GE532.out) | exact HB.out)) hb); clear BK530; clear BK531; clear BK532; clear HB; have BK530 := n0_; have BK531 := n1_; have BK532 := n2_; have HB := n3_; clear n0_ n1_ n2_ n3_; (try clear hb); (try clear hb2); (try clear hk); (try clear hi); have hnb66 := NB532_531.out; have hnc66 := NB531_532.out; have hcz67_0 : w65.cell? ⟨gb532, 0, none⟩ = some (.int .i64 0) := (blk_cell BK532.out 0).trans rfl; have hcz67_1 : w65.cell? ⟨gb532, 1, none⟩ = some (.int .i64 0) := (blk_cell BK532.out 1).trans rfl; have hcz67_2 : w65.cell? ⟨gb532, 2, none⟩ = some (.string (⟨#[]⟩ : ByteArray)) := (blk_cell BK532.out 2).trans rfl; have hfz67_0 := blk_frozen BK532.out 0; have hfz67_1 := blk_frozen BK532.out 1; have hfz67_2 := blk_frozen BK532.out 2)); try go_wp2_with (first | (go_at_call 143; (with_reducible refine (tacticianref01_Text.calls x5_2 t542 t543 t544 _ A61.out).mono ?_); rintro e w65 ⟨rfl, hb⟩; have n0_ := Aside0.mk (blk_below (g := gb530) (o := .cells #[.int .i64 a0_0, .int .i64 a0_1, .string a0_2] 61 (0, 0)) (by (with_reducible repeat (first | refine zN ?_ _ | refine zD ?_ | refine zA ?_ _)); exact BK530.out) hb); have n1_ := Aside0.mk (blk_below (g := gb531) (o := .cells #[.int .i64 a1_0, .bool a1_1] 88 (0, 0)) (by (with_reducible repeat (first | refine zN ?_ _ | refine zD ?_ | refine zA ?_ _)); exact BK531.out) hb); have n2_ := Aside0.mk (blk_below (g := gb532) (o := .cells #[.int .i64 0, .int .i64 0, .string (⟨#[]⟩ : ByteArray)] 61 (0, 0)) (by (with_reducible repeat (first | refine zN ?_ _ | refine zD ?_ | refine zA ?_ _)); exact BK532.out) hb); have n3_ := Aside0.mk (below_step (by repeat (first | (with_reducible first | exact HB.out | apply yA | apply yN | apply yD | refine below_set ?_ GE530.out | refine below_set ?_ GE531.out | refine below_set ?_ GE532.out) | exact HB.out)) hb); clear BK530; clear BK531; clear BK532; clear HB; have BK530 := n0_; have BK531 := n1_; have BK532 := n2_; have HB := n3_; clear n0_ n1_ n2_ n3_; (try clear hb); (try clear hb2); (try clear hk); (try clear hi); have hnb66 := NB532_531.out; have hnc66 := NB531_532.out; have hcz67_0 : w65.cell? ⟨gb532, 0, none⟩ = some (.int .i64 0) := (blk_cell BK532.out 0).trans rfl; have hcz67_1 : w65.cell? ⟨gb532, 1, none⟩ = some (.int .i64 0) := (blk_cell BK532.out 1).trans rfl; have hcz67_2 : w65.cell? ⟨gb532, 2, none⟩ = some (.string (⟨#[]⟩ : ByteArray)) := (blk_cell BK532.out 2).trans rfl; have hfz67_0 := blk_frozen BK532.out 0; have hfz67_1 := blk_frozen BK532.out 1; have hfz67_2 := blk_frozen BK532.out 2)))
         refine bodyPost_ret (results_cell_row rfl _ _ gb532 61 #[.int .i64 t542, .int .i64 t543, .string t544] (0, 0) _ rfl (by (with_reducible repeat (first | refine zN ?_ _ | refine zD ?_ | refine zA ?_ _)); refine blk_put (cs := #[.int .i64 t542, .int .i64 t543, .string (⟨#[]⟩ : ByteArray)]) ?_ 2 _ rfl; (with_reducible repeat (first | refine zN ?_ _ | refine zD ?_ | refine zA ?_ _)); refine blk_put (cs := #[.int .i64 t542, .int .i64 0, .string (⟨#[]⟩ : ByteArray)]) ?_ 1 _ rfl; (with_reducible repeat (first | refine zN ?_ _ | refine zD ?_ | refine zA ?_ _)); refine blk_put (cs := #[.int .i64 0, .int .i64 0, .string (⟨#[]⟩ : ByteArray)]) ?_ 0 _ rfl; (with_reducible repeat (first | refine zN ?_ _ | refine zD ?_ | refine zA ?_ _)); exact BK532.out) Tryz.underlying61 rfl (by kernel_rfl)) rfl ?_
         exact ⟨by first | rfl | (simp [errW_none, errW_some] <;> rfl) | (simp [*, errW_none, errW_some] <;> rfl), by repeat (first | (with_reducible first | exact HB.out | apply yA | apply yN | apply yD | refine below_set ?_ GE530.out | refine below_set ?_ GE531.out | refine below_set ?_ GE532.out) | exact HB.out)⟩
     ·rw [if_neg c37] at H
      have c37b0 : (a1_0 == 3) = false := beq_eq_false_iff_ne.mpr c37
      have c37b1 : (a1_0 != 3) = true := bne_iff_ne.mpr c37
      by_cases c68 : (Int.tmod (IntKind.u64.wrap (a0_1)) 16) = 15
      ·rw [if_pos c68] at H
       have c68b0 : ((Int.tmod (IntKind.u64.wrap (a0_1)) 16) == 15) = true := beq_iff_eq.mpr c68
       have c68b1 : ((Int.tmod (IntKind.u64.wrap (a0_1)) 16) != 15) = false := bne_eq_false_iff_eq.mpr c68
       clear c68
       replace H := Option.bind_eq_some_iff.mp H
       obtain ⟨⟨t545, t546, t547⟩, A690, H⟩ := H
       replace H : (some (t545, t546, t547)) = some (r1, r2, r3) := H
       have A69 := Aside0.mk A690
       clear A690
       simp only [Option.some.injEq, Prod.mk.injEq] at H
       obtain ⟨rfl, rfl, rfl⟩ := H
       have hnb70 := NB531_530.out
       have hnc70 := NB530_531.out
       have hnb71 := NB531_532.out
       have hnc71 := NB532_531.out
       have hcz72_0 : wc.cell? ⟨gb531, 0, none⟩ = some (.int .i64 a1_0) := (blk_cell BK531.out 0).trans rfl
       have hcz72_1 : wc.cell? ⟨gb531, 1, none⟩ = some (.bool a1_1) := (blk_cell BK531.out 1).trans rfl
       have hfz72_0 := blk_frozen BK531.out 0
       have hfz72_1 := blk_frozen BK531.out 1
       have hnb73 := NB530_532.out
       have hnc73 := NB532_530.out
       have hcz74_0 : wc.cell? ⟨gb530, 0, none⟩ = some (.int .i64 a0_0) := (blk_cell BK530.out 0).trans rfl
       have hcz74_1 : wc.cell? ⟨gb530, 1, none⟩ = some (.int .i64 a0_1) := (blk_cell BK530.out 1).trans rfl
       have hcz74_2 : wc.cell? ⟨gb530, 2, none⟩ = some (.string a0_2) := (blk_cell BK530.out 2).trans rfl
       have hfz74_0 := blk_frozen BK530.out 0
       have hfz74_1 := blk_frozen BK530.out 1
       have hfz74_2 := blk_frozen BK530.out 2
       go_wp2_with (first | (go_at_call 41; (with_reducible refine (tacticianref01_Int.calls a0_1 t545 t546 t547 _ A69.out).mono ?_); rintro e w75 ⟨rfl, hb⟩; have n0_ := Aside0.mk (blk_below (g := gb530) (o := .cells #[.int .i64 a0_0, .int .i64 a0_1, .string a0_2] 61 (0, 0)) (by (with_reducible repeat (first | refine zN ?_ _ | refine zD ?_ | refine zA ?_ _)); exact BK530.out) hb); have n1_ := Aside0.mk (blk_below (g := gb531) (o := .cells #[.int .i64 a1_0, .bool a1_1] 88 (0, 0)) (by (with_reducible repeat (first | refine zN ?_ _ | refine zD ?_ | refine zA ?_ _)); exact BK531.out) hb); have n2_ := Aside0.mk (blk_below (g := gb532) (o := .cells #[.int .i64 0, .int .i64 0, .string (⟨#[]⟩ : ByteArray)] 61 (0, 0)) (by (with_reducible repeat (first | refine zN ?_ _ | refine zD ?_ | refine zA ?_ _)); exact BK532.out) hb); have n3_ := Aside0.mk (below_step (by repeat (first | (with_reducible first | exact HB.out | apply yA | apply yN | apply yD | refine below_set ?_ GE530.out | refine below_set ?_ GE531.out | refine below_set ?_ GE532.out) | exact HB.out)) hb); clear BK530; clear BK531; clear BK532; clear HB; have BK530 := n0_; have BK531 := n1_; have BK532 := n2_; have HB := n3_; clear n0_ n1_ n2_ n3_; (try clear hb); (try clear hb2); (try clear hk); (try clear hi); have hcz76_0 : w75.cell? ⟨gb532, 0, none⟩ = some (.int .i64 0) := (blk_cell BK532.out 0).trans rfl; have hcz76_1 : w75.cell? ⟨gb532, 1, none⟩ = some (.int .i64 0) := (blk_cell BK532.out 1).trans rfl; have hcz76_2 : w75.cell? ⟨gb532, 2, none⟩ = some (.string (⟨#[]⟩ : ByteArray)) := (blk_cell BK532.out 2).trans rfl; have hfz76_0 := blk_frozen BK532.out 0; have hfz76_1 := blk_frozen BK532.out 1; have hfz76_2 := blk_frozen BK532.out 2))
       repeat (go_quiet (first | (go_at_call 41; (with_reducible refine (tacticianref01_Int.calls a0_1 t545 t546 t547 _ A69.out).mono ?_); rintro e w75 ⟨rfl, hb⟩; have n0_ := Aside0.mk (blk_below (g := gb530) (o := .cells #[.int .i64 a0_0, .int .i64 a0_1, .string a0_2] 61 (0, 0)) (by (with_reducible repeat (first | refine zN ?_ _ | refine zD ?_ | refine zA ?_ _)); exact BK530.out) hb); have n1_ := Aside0.mk (blk_below (g := gb531) (o := .cells #[.int .i64 a1_0, .bool a1_1] 88 (0, 0)) (by (with_reducible repeat (first | refine zN ?_ _ | refine zD ?_ | refine zA ?_ _)); exact BK531.out) hb); have n2_ := Aside0.mk (blk_below (g := gb532) (o := .cells #[.int .i64 0, .int .i64 0, .string (⟨#[]⟩ : ByteArray)] 61 (0, 0)) (by (with_reducible repeat (first | refine zN ?_ _ | refine zD ?_ | refine zA ?_ _)); exact BK532.out) hb); have n3_ := Aside0.mk (below_step (by repeat (first | (with_reducible first | exact HB.out | apply yA | apply yN | apply yD | refine below_set ?_ GE530.out | refine below_set ?_ GE531.out | refine below_set ?_ GE532.out) | exact HB.out)) hb); clear BK530; clear BK531; clear BK532; clear HB; have BK530 := n0_; have BK531 := n1_; have BK532 := n2_; have HB := n3_; clear n0_ n1_ n2_ n3_; (try clear hb); (try clear hb2); (try clear hk); (try clear hi); have hcz76_0 : w75.cell? ⟨gb532, 0, none⟩ = some (.int .i64 0) := (blk_cell BK532.out 0).trans rfl; have hcz76_1 : w75.cell? ⟨gb532, 1, none⟩ = some (.int .i64 0) := (blk_cell BK532.out 1).trans rfl; have hcz76_2 : w75.cell? ⟨gb532, 2, none⟩ = some (.string (⟨#[]⟩ : ByteArray)) := (blk_cell BK532.out 2).trans rfl; have hfz76_0 := blk_frozen BK532.out 0; have hfz76_1 := blk_frozen BK532.out 1; have hfz76_2 := blk_frozen BK532.out 2)); try go_wp2_with (first | (go_at_call 41; (with_reducible refine (tacticianref01_Int.calls a0_1 t545 t546 t547 _ A69.out).mono ?_); rintro e w75 ⟨rfl, hb⟩; have n0_ := Aside0.mk (blk_below (g := gb530) (o := .cells #[.int .i64 a0_0, .int .i64 a0_1, .string a0_2] 61 (0, 0)) (by (with_reducible repeat (first | refine zN ?_ _ | refine zD ?_ | refine zA ?_ _)); exact BK530.out) hb); have n1_ := Aside0.mk (blk_below (g := gb531) (o := .cells #[.int .i64 a1_0, .bool a1_1] 88 (0, 0)) (by (with_reducible repeat (first | refine zN ?_ _ | refine zD ?_ | refine zA ?_ _)); exact BK531.out) hb); have n2_ := Aside0.mk (blk_below (g := gb532) (o := .cells #[.int .i64 0, .int .i64 0, .string (⟨#[]⟩ : ByteArray)] 61 (0, 0)) (by (with_reducible repeat (first | refine zN ?_ _ | refine zD ?_ | refine zA ?_ _)); exact BK532.out) hb); have n3_ := Aside0.mk (below_step (by repeat (first | (with_reducible first | exact HB.out | apply yA | apply yN | apply yD | refine below_set ?_ GE530.out | refine below_set ?_ GE531.out | refine below_set ?_ GE532.out) | exact HB.out)) hb); clear BK530; clear BK531; clear BK532; clear HB; have BK530 := n0_; have BK531 := n1_; have BK532 := n2_; have HB := n3_; clear n0_ n1_ n2_ n3_; (try clear hb); (try clear hb2); (try clear hk); (try clear hi); have hcz76_0 : w75.cell? ⟨gb532, 0, none⟩ = some (.int .i64 0) := (blk_cell BK532.out 0).trans rfl; have hcz76_1 : w75.cell? ⟨gb532, 1, none⟩ = some (.int .i64 0) := (blk_cell BK532.out 1).trans rfl; have hcz76_2 : w75.cell? ⟨gb532, 2, none⟩ = some (.string (⟨#[]⟩ : ByteArray)) := (blk_cell BK532.out 2).trans rfl; have hfz76_0 := blk_frozen BK532.out 0; have hfz76_1 := blk_frozen BK532.out 1; have hfz76_2 := blk_frozen BK532.out 2)))
       refine bodyPost_ret (results_cell_row rfl _ _ gb532 61 #[.int .i64 t545, .int .i64 t546, .string t547] (0, 0) _ rfl (by (with_reducible repeat (first | refine zN ?_ _ | refine zD ?_ | refine zA ?_ _)); refine blk_put (cs := #[.int .i64 t545, .int .i64 t546, .string (⟨#[]⟩ : ByteArray)]) ?_ 2 _ rfl; (with_reducible repeat (first | refine zN ?_ _ | refine zD ?_ | refine zA ?_ _)); refine blk_put (cs := #[.int .i64 t545, .int .i64 0, .string (⟨#[]⟩ : ByteArray)]) ?_ 1 _ rfl; (with_reducible repeat (first | refine zN ?_ _ | refine zD ?_ | refine zA ?_ _)); refine blk_put (cs := #[.int .i64 0, .int .i64 0, .string (⟨#[]⟩ : ByteArray)]) ?_ 0 _ rfl; (with_reducible repeat (first | refine zN ?_ _ | refine zD ?_ | refine zA ?_ _)); exact BK532.out) Tryz.underlying61 rfl (by kernel_rfl)) rfl ?_
       exact ⟨by first | rfl | (simp [errW_none, errW_some] <;> rfl) | (simp [*, errW_none, errW_some] <;> rfl), by repeat (first | (with_reducible first | exact HB.out | apply yA | apply yN | apply yD | refine below_set ?_ GE530.out | refine below_set ?_ GE531.out | refine below_set ?_ GE532.out) | exact HB.out)⟩
      ·rw [if_neg c68] at H
       have c68b0 : ((Int.tmod (IntKind.u64.wrap (a0_1)) 16) == 15) = false := beq_eq_false_iff_ne.mpr c68
       have c68b1 : ((Int.tmod (IntKind.u64.wrap (a0_1)) 16) != 15) = true := bne_iff_ne.mpr c68
       replace H := Option.bind_eq_some_iff.mp H
       obtain ⟨⟨t548, t549, t550⟩, A770, H⟩ := H
       replace H : (some (t548, t549, t550)) = some (r1, r2, r3) := H
       have A77 := Aside0.mk A770
       clear A770
       simp only [Option.some.injEq, Prod.mk.injEq] at H
       obtain ⟨rfl, rfl, rfl⟩ := H
       have hnb78 := NB531_530.out
       have hnc78 := NB530_531.out
       have hnb79 := NB531_532.out
       have hnc79 := NB532_531.out
       have hcz80_0 : wc.cell? ⟨gb531, 0, none⟩ = some (.int .i64 a1_0) := (blk_cell BK531.out 0).trans rfl
       have hcz80_1 : wc.cell? ⟨gb531, 1, none⟩ = some (.bool a1_1) := (blk_cell BK531.out 1).trans rfl
       have hfz80_0 := blk_frozen BK531.out 0
       have hfz80_1 := blk_frozen BK531.out 1
       have hnb81 := NB530_532.out
       have hnc81 := NB532_530.out
       have hcz82_0 : wc.cell? ⟨gb530, 0, none⟩ = some (.int .i64 a0_0) := (blk_cell BK530.out 0).trans rfl
       have hcz82_1 : wc.cell? ⟨gb530, 1, none⟩ = some (.int .i64 a0_1) := (blk_cell BK530.out 1).trans rfl
       have hcz82_2 : wc.cell? ⟨gb530, 2, none⟩ = some (.string a0_2) := (blk_cell BK530.out 2).trans rfl
       have hfz82_0 := blk_frozen BK530.out 0
       have hfz82_1 := blk_frozen BK530.out 1
       have hfz82_2 := blk_frozen BK530.out 2
       go_wp2_with (first | (go_at_call 41; (with_reducible refine (tacticianref01_Int.calls (wrap64 ((wrap64 (Int.tmod (IntKind.u64.wrap (a0_1)) 7)) - 2)) t548 t549 t550 _ A77.out).mono ?_); rintro e w83 ⟨rfl, hb⟩; have n0_ := Aside0.mk (blk_below (g := gb530) (o := .cells #[.int .i64 a0_0, .int .i64 a0_1, .string a0_2] 61 (0, 0)) (by (with_reducible repeat (first | refine zN ?_ _ | refine zD ?_ | refine zA ?_ _)); exact BK530.out) hb); have n1_ := Aside0.mk (blk_below (g := gb531) (o := .cells #[.int .i64 a1_0, .bool a1_1] 88 (0, 0)) (by (with_reducible repeat (first | refine zN ?_ _ | refine zD ?_ | refine zA ?_ _)); exact BK531.out) hb); have n2_ := Aside0.mk (blk_below (g := gb532) (o := .cells #[.int .i64 0, .int .i64 0, .string (⟨#[]⟩ : ByteArray)] 61 (0, 0)) (by (with_reducible repeat (first | refine zN ?_ _ | refine zD ?_ | refine zA ?_ _)); exact BK532.out) hb); have n3_ := Aside0.mk (below_step (by repeat (first | (with_reducible first | exact HB.out | apply yA | apply yN | apply yD | refine below_set ?_ GE530.out | refine below_set ?_ GE531.out | refine below_set ?_ GE532.out) | exact HB.out)) hb); clear BK530; clear BK531; clear BK532; clear HB; have BK530 := n0_; have BK531 := n1_; have BK532 := n2_; have HB := n3_; clear n0_ n1_ n2_ n3_; (try clear hb); (try clear hb2); (try clear hk); (try clear hi); have hcz84_0 : w83.cell? ⟨gb532, 0, none⟩ = some (.int .i64 0) := (blk_cell BK532.out 0).trans rfl; have hcz84_1 : w83.cell? ⟨gb532, 1, none⟩ = some (.int .i64 0) := (blk_cell BK532.out 1).trans rfl; have hcz84_2 : w83.cell? ⟨gb532, 2, none⟩ = some (.string (⟨#[]⟩ : ByteArray)) := (blk_cell BK532.out 2).trans rfl; have hfz84_0 := blk_frozen BK532.out 0; have hfz84_1 := blk_frozen BK532.out 1; have hfz84_2 := blk_frozen BK532.out 2))
       repeat (go_quiet (first | (go_at_call 41; (with_reducible refine (tacticianref01_Int.calls (wrap64 ((wrap64 (Int.tmod (IntKind.u64.wrap (a0_1)) 7)) - 2)) t548 t549 t550 _ A77.out).mono ?_); rintro e w83 ⟨rfl, hb⟩; have n0_ := Aside0.mk (blk_below (g := gb530) (o := .cells #[.int .i64 a0_0, .int .i64 a0_1, .string a0_2] 61 (0, 0)) (by (with_reducible repeat (first | refine zN ?_ _ | refine zD ?_ | refine zA ?_ _)); exact BK530.out) hb); have n1_ := Aside0.mk (blk_below (g := gb531) (o := .cells #[.int .i64 a1_0, .bool a1_1] 88 (0, 0)) (by (with_reducible repeat (first | refine zN ?_ _ | refine zD ?_ | refine zA ?_ _)); exact BK531.out) hb); have n2_ := Aside0.mk (blk_below (g := gb532) (o := .cells #[.int .i64 0, .int .i64 0, .string (⟨#[]⟩ : ByteArray)] 61 (0, 0)) (by (with_reducible repeat (first | refine zN ?_ _ | refine zD ?_ | refine zA ?_ _)); exact BK532.out) hb); have n3_ := Aside0.mk (below_step (by repeat (first | (with_reducible first | exact HB.out | apply yA | apply yN | apply yD | refine below_set ?_ GE530.out | refine below_set ?_ GE531.out | refine below_set ?_ GE532.out) | exact HB.out)) hb); clear BK530; clear BK531; clear BK532; clear HB; have BK530 := n0_; have BK531 := n1_; have BK532 := n2_; have HB := n3_; clear n0_ n1_ n2_ n3_; (try clear hb); (try clear hb2); (try clear hk); (try clear hi); have hcz84_0 : w83.cell? ⟨gb532, 0, none⟩ = some (.int .i64 0) := (blk_cell BK532.out 0).trans rfl; have hcz84_1 : w83.cell? ⟨gb532, 1, none⟩ = some (.int .i64 0) := (blk_cell BK532.out 1).trans rfl; have hcz84_2 : w83.cell? ⟨gb532, 2, none⟩ = some (.string (⟨#[]⟩ : ByteArray)) := (blk_cell BK532.out 2).trans rfl; have hfz84_0 := blk_frozen BK532.out 0; have hfz84_1 := blk_frozen BK532.out 1; have hfz84_2 := blk_frozen BK532.out 2)); try go_wp2_with (first | (go_at_call 41; (with_reducible refine (tacticianref01_Int.calls (wrap64 ((wrap64 (Int.tmod (IntKind.u64.wrap (a0_1)) 7)) - 2)) t548 t549 t550 _ A77.out).mono ?_); rintro e w83 ⟨rfl, hb⟩; have n0_ := Aside0.mk (blk_below (g := gb530) (o := .cells #[.int .i64 a0_0, .int .i64 a0_1, .string a0_2] 61 (0, 0)) (by (with_reducible repeat (first | refine zN ?_ _ | refine zD ?_ | refine zA ?_ _)); exact BK530.out) hb); have n1_ := Aside0.mk (blk_below (g := gb531) (o := .cells #[.int .i64 a1_0, .bool a1_1] 88 (0, 0)) (by (with_reducible repeat (first | refine zN ?_ _ | refine zD ?_ | refine zA ?_ _)); exact BK531.out) hb); have n2_ := Aside0.mk (blk_below (g := gb532) (o := .cells #[.int .i64 0, .int .i64 0, .string (⟨#[]⟩ : ByteArray)] 61 (0, 0)) (by (with_reducible repeat (first | refine zN ?_ _ | refine zD ?_ | refine zA ?_ _)); exact BK532.out) hb); have n3_ := Aside0.mk (below_step (by repeat (first | (with_reducible first | exact HB.out | apply yA | apply yN | apply yD | refine below_set ?_ GE530.out | refine below_set ?_ GE531.out | refine below_set ?_ GE532.out) | exact HB.out)) hb); clear BK530; clear BK531; clear BK532; clear HB; have BK530 := n0_; have BK531 := n1_; have BK532 := n2_; have HB := n3_; clear n0_ n1_ n2_ n3_; (try clear hb); (try clear hb2); (try clear hk); (try clear hi); have hcz84_0 : w83.cell? ⟨gb532, 0, none⟩ = some (.int .i64 0) := (blk_cell BK532.out 0).trans rfl; have hcz84_1 : w83.cell? ⟨gb532, 1, none⟩ = some (.int .i64 0) := (blk_cell BK532.out 1).trans rfl; have hcz84_2 : w83.cell? ⟨gb532, 2, none⟩ = some (.string (⟨#[]⟩ : ByteArray)) := (blk_cell BK532.out 2).trans rfl; have hfz84_0 := blk_frozen BK532.out 0; have hfz84_1 := blk_frozen BK532.out 1; have hfz84_2 := blk_frozen BK532.out 2)))
       refine bodyPost_ret (results_cell_row rfl _ _ gb532 61 #[.int .i64 t548, .int .i64 t549, .string t550] (0, 0) _ rfl (by (with_reducible repeat (first | refine zN ?_ _ | refine zD ?_ | refine zA ?_ _)); refine blk_put (cs := #[.int .i64 t548, .int .i64 t549, .string (⟨#[]⟩ : ByteArray)]) ?_ 2 _ rfl; (with_reducible repeat (first | refine zN ?_ _ | refine zD ?_ | refine zA ?_ _)); refine blk_put (cs := #[.int .i64 t548, .int .i64 0, .string (⟨#[]⟩ : ByteArray)]) ?_ 1 _ rfl; (with_reducible repeat (first | refine zN ?_ _ | refine zD ?_ | refine zA ?_ _)); refine blk_put (cs := #[.int .i64 0, .int .i64 0, .string (⟨#[]⟩ : ByteArray)]) ?_ 0 _ rfl; (with_reducible repeat (first | refine zN ?_ _ | refine zD ?_ | refine zA ?_ _)); exact BK532.out) Tryz.underlying61 rfl (by kernel_rfl)) rfl ?_
       exact ⟨by first | rfl | (simp [errW_none, errW_some] <;> rfl) | (simp [*, errW_none, errW_some] <;> rfl), by repeat (first | (with_reducible first | exact HB.out | apply yA | apply yN | apply yD | refine below_set ?_ GE530.out | refine below_set ?_ GE531.out | refine below_set ?_ GE532.out) | exact HB.out)⟩
end Go.Proofs.YtmhobbdedmjmnaaGreatDoor.Q
end
