/- Lemmas for the claim: contracts of functions and facts about what they compute, part 7 (texts put together, and cut down to what is used, by a program of ours). -/
import Derived.ProofKit
import Derived.SizedLaws
import Derived.Deep.Slices
import Derived.Deep.Strs
import Derived.ChangeSame
import Derived.Test.YtmhobbdedmjmnaaGreatDoorMTogether5
section
/- Each function reached is shown to return what the plain function beside it computes, wherever that is defined (written by a program of ours for this seat). -/
namespace Go.Proofs.YtmhobbdedmjmnaaGreatDoor.Q
open Go.RowKit Go.Proofs.YtmhobbdedmjmnaaGreatDoorW.PrintWords Go.Proofs.YtmhobbdedmjmnaaGreatDoorW.PrintLast Go.Proofs.YtmhobbdedmjmnaaGreatDoorW.PrintMore
attribute [local go_sem] max2_int min2_int max_two min_two max_three min_three max_four min_four   -- for this text's walks alone
set_option linter.unusedVariables false
set_option linter.unusedSimpArgs false
/-! ### tacticianlaw02_awake: function 18 -/
section
/-- a number, as a value -/
abbrev iV (n : Int) : V := ⟨1, n, ⟨#[]⟩⟩
theorem below_any {w w' : World} (h : Below w.heap.size w w') : Below w.heap.size w w' := h
theorem rowK {W : World} {A : Option Addr} {n c : Nat} {x : List V} (h : Kd.C k61 W A n x) (hc : n ≤ c) : (Kd.slice 61 k61).K W x [.slice A n c] := by
  obtain rfl := h.1
  exact ⟨A, c, rfl, hc, h⟩
theorem rowKnil {W : World} : (Kd.slice 61 k61).K W [] [.slice none 0 0] := ⟨none, 0, rfl, Nat.le_refl _, Kd.C_nil _ _⟩
theorem rowLit1 (n : Int) (W : World) {g : Nat} (hg : g = W.heap.size) : Calls Tryz.prog 57 #[.slice (some ⟨g, 0, none⟩) 1 1] (W.alloc (.cells #[.int .i64 n] 2)) fun e w' => ∃ A c, e = .returned (.slice A 1 c) ∧ 1 ≤ c ∧ Kd.C k61 w' A 1 [iV n] ∧ Below W.heap.size W w' := by
  subst hg
  have hC : Kd.C (Kd.int .i64) (W.alloc (.cells #[.int .i64 n] 2)) (some ⟨W.heap.size, 0, none⟩) 1 [n] := C_lit rfl (blk_new W _) (Reps.one rfl (Reps.none _ _)) (show 1 ≤ 1000 by decide)
  refine (tacticianlaw02_row.calls 3 (some ⟨W.heap.size, 0, none⟩) 1 [n] [iV n] _ hC (Nat.le_refl _) (by simp [tacticianlaw02_row.f, tacticianlaw02_row.l0, tacticianref01_Int.f, rd, iV, wrap64])).mono ?_
  rintro e w' ⟨v, rfl, hv, hb⟩
  obtain ⟨A, c, rfl, h1, h2⟩ := Kd.R_reads hv
  exact ⟨A, c, rfl, h1, h2, below_step (below_alloc (Below.refl _ _) _) hb⟩
theorem rowLit2 (n m : Int) (W : World) {g : Nat} (hg : g = W.heap.size) : Calls Tryz.prog 57 #[.slice (some ⟨g, 0, none⟩) 2 2] (W.alloc (.cells #[.int .i64 n, .int .i64 m] 2)) fun e w' => ∃ A c, e = .returned (.slice A 2 c) ∧ 2 ≤ c ∧ Kd.C k61 w' A 2 [iV n, iV m] ∧ Below W.heap.size W w' := by
  subst hg
  have hC : Kd.C (Kd.int .i64) (W.alloc (.cells #[.int .i64 n, .int .i64 m] 2)) (some ⟨W.heap.size, 0, none⟩) 2 [n, m] := C_lit rfl (blk_new W _) (Reps.one rfl (Reps.one rfl (Reps.none _ _))) (show 2 ≤ 1000 by decide)
  refine (tacticianlaw02_row.calls 4 (some ⟨W.heap.size, 0, none⟩) 2 [n, m] [iV n, iV m] _ hC (Nat.le_refl _) (by simp [tacticianlaw02_row.f, tacticianlaw02_row.l0, tacticianref01_Int.f, rd, iV, wrap64])).mono ?_
  rintro e w' ⟨v, rfl, hv, hb⟩
  obtain ⟨A, c, rfl, h1, h2⟩ := Kd.R_reads hv
  exact ⟨A, c, rfl, h1, h2, below_step (below_alloc (Below.refl _ _) _) hb⟩
theorem keyLit {W : World} (g : Nat) (h : W.heap[g]? = some (.cells #[.int .i64 1, .bool true] 36 (0, 0))) : Kd.C k36 W (some ⟨g, 0, none⟩) 1 [(⟨1, true⟩ : KK)] :=
  ⟨rfl, by decide, fun _ => ⟨_, rfl, fun j p hj => by
    have hj0 : j = 0 := by
      have := (List.getElem?_eq_some_iff.1 hj).1
      simpa using this
    subst hj0
    have hp : (⟨1, true⟩ : KK) = p := by simpa using hj
    subst hp
    exact ⟨[.int .i64 1, .bool true], rfl, ⟨[.int .i64 1], [.bool true], rfl, rfl, rfl⟩, fun i u hu => by
      rw [show 0 * (k36).sz + i = i by rw [Nat.zero_mul, Nat.zero_add], add_at, Nat.zero_add, blk_cell h]
      simpa using hu⟩⟩⟩
theorem keyLit2 (W : World) (x : Obj) : Kd.C k36 ((W.alloc x).alloc (.cells #[.int .i64 1, .bool true] 36)) (some ⟨W.heap.size + 1, 0, none⟩) 1 [(⟨1, true⟩ : KK)] := by
  have h := blk_new (W.alloc x) (.cells #[.int .i64 1, .bool true] 36)
  rw [show (W.alloc x).heap.size = W.heap.size + 1 by simp] at h
  exact keyLit _ h
theorem canR_is {l r : List (List V)} (h1 : r.Perm l) (h2 : r.Pairwise fun a b => leOf cfR a b = true) : canR l = r := (cfR_tc.unique h1 h2).symm
theorem sortK_is (ks : List (Int × Bool)) {l r : List (List V)} (h1 : r.Perm l) (h2 : r.Pairwise fun a b => leOf (cfK ks) a b = true) : sortBy (cfK ks) l = r := ((cfK_tc ks).unique h1 h2).symm
theorem aw_HX : rows_Both.f [[iV 1], [iV 1], [iV 2]] [[iV 1], [iV 3]] true = some ([[iV 1]], 0) := by
  unfold rows_Both.f
  rw [if_pos (by decide +kernel), if_pos (by decide +kernel), if_pos rfl, canR_is (r := [[iV 1]]) (by decide +kernel) (by decide +kernel)]
theorem aw_HY : rows_Minus.f [[iV 1], [iV 1], [iV 2]] [[iV 1], [iV 3]] true = some ([[iV 1], [iV 2]], 0) := by
  unfold rows_Minus.f
  rw [if_pos (by decide +kernel), if_pos (by decide +kernel), if_pos rfl, canR_is (r := [[iV 1], [iV 2]]) (by decide +kernel) (by decide +kernel)]
theorem aw_one : oneR [[iV 1], [iV 1], [iV 2]] = [[iV 1], [iV 2]] := by
  unfold oneR
  rw [canR_is (r := [[iV 1], [iV 1], [iV 2]]) (by decide +kernel) (by decide +kernel)]
  decide +kernel
theorem aw_HZ : rows_Minus.f [[iV 1], [iV 1], [iV 2]] [[iV 1], [iV 3]] false = some ([[iV 2]], 0) := by
  unfold rows_Minus.f
  rw [if_pos (by decide +kernel), if_pos (by decide +kernel), if_neg (by decide), aw_one, canR_is (r := [[iV 2]]) (by decide +kernel) (by decide +kernel)]
theorem aw_HOO : rows_Ordered.f [[iV 1, iV 2], [iV 2, iV 1], [iV 1, iV 1]] [(⟨1, true⟩ : KK)] = some ([[iV 1, iV 2], [iV 1, iV 1], [iV 2, iV 1]], 0) := by
  unfold rows_Ordered.f
  rw [if_pos (by decide +kernel), if_pos (by decide +kernel), if_pos (by decide +kernel), sortK_is _ (r := [[iV 1, iV 2], [iV 1, iV 1], [iV 2, iV 1]]) (by decide +kernel) (by decide +kernel)]
theorem aw_S : rows_String.f [[iV 1, iV 2], []] = some (⟨#[40, 49, 44, 32, 50, 41, 10, 40, 41, 10]⟩, 0) := by
  unfold rows_String.f
  rw [if_pos (by decide +kernel), if_pos (by decide +kernel), if_pos (by decide +kernel)]
  decide +kernel
def tacticianlaw02_awake.f : Option Bool := some true
set_option maxRecDepth 100000 in
set_option maxHeartbeats 8000000 in
theorem tacticianlaw02_awake.calls (r : Bool) (w : World) (hL_ : Laid w) (h : tacticianlaw02_awake.f = some r) :
  Calls Tryz.prog 18 #[] w fun e w' => e = .returned (.bool r) ∧ Below w.heap.size w w' := by
 obtain rfl := Option.some.inj h
 clear h
 have HLD := Aside0.mk hL_
 clear hL_
 have hu36 := Tryz.underlying36
 have HB := Aside0.mk (Below.refl w.heap.size w)
 go_enter Tryz.func18, Tryz.ntmps18
 go_wp2_with fail
 refine (rowLit1 1 (w) (by first | rfl | (go_simp; done) | (go_simp; rfl))).mono ?_
 rintro e w1 ⟨A1, c1, rfl, hl1, hC1, hb1⟩
 have HT := Aside0.mk (below_step HB.out hb1)
 clear HB
 have HB := HT
 clear HT
 have HC1 := Aside0.mk hC1
 have HL1 := Aside0.mk hl1
 clear hC1 hl1 hb1
 go_wp2_with fail
 refine (rowLit1 1 (w1) (by first | rfl | (go_simp; done) | (go_simp; rfl))).mono ?_
 rintro e w2 ⟨A2, c2, rfl, hl2, hC2, hb2⟩
 have HC1_ := Aside0.mk (Kd.C_below HC1.out hb2)
 clear HC1
 have HC1 := HC1_
 clear HC1_
 have HT := Aside0.mk (below_step HB.out hb2)
 clear HB
 have HB := HT
 clear HT
 have HC2 := Aside0.mk hC2
 have HL2 := Aside0.mk hl2
 clear hC2 hl2 hb2
 go_wp2_with fail
 refine (rowLit1 2 (w2) (by first | rfl | (go_simp; done) | (go_simp; rfl))).mono ?_
 rintro e w3 ⟨A3, c3, rfl, hl3, hC3, hb3⟩
 have HC1_ := Aside0.mk (Kd.C_below HC1.out hb3)
 clear HC1
 have HC1 := HC1_
 clear HC1_
 have HC2_ := Aside0.mk (Kd.C_below HC2.out hb3)
 clear HC2
 have HC2 := HC2_
 clear HC2_
 have HT := Aside0.mk (below_step HB.out hb3)
 clear HB
 have HB := HT
 clear HT
 have HC3 := Aside0.mk hC3
 have HL3 := Aside0.mk hl3
 clear hC3 hl3 hb3
 have HC1_ := Aside0.mk (Kd.C_below HC1.out (below_alloc (Below.refl _ _) (.cells #[.slice A1 1 c1, .slice A2 1 c2, .slice A3 1 c3] 40)))
 clear HC1
 have HC1 := HC1_
 clear HC1_
 have HC2_ := Aside0.mk (Kd.C_below HC2.out (below_alloc (Below.refl _ _) (.cells #[.slice A1 1 c1, .slice A2 1 c2, .slice A3 1 c3] 40)))
 clear HC2
 have HC2 := HC2_
 clear HC2_
 have HC3_ := Aside0.mk (Kd.C_below HC3.out (below_alloc (Below.refl _ _) (.cells #[.slice A1 1 c1, .slice A2 1 c2, .slice A3 1 c3] 40)))
 clear HC3
 have HC3 := HC3_
 clear HC3_
 have HA : Aside0 (Kd.C (Kd.slice 61 k61) (w3.alloc (.cells #[.slice A1 1 c1, .slice A2 1 c2, .slice A3 1 c3] 40)) _ 3 [[iV 1], [iV 1], [iV 2]]) := ⟨C_lit rfl (blk_new _ _) (Reps.one (rowK HC1.out HL1.out) (Reps.one (rowK HC2.out HL2.out) (Reps.one (rowK HC3.out HL3.out) (Reps.none _ _)))) (show 3 ≤ 1000 by decide)⟩
 clear HC1 HL1
 clear HC2 HL2
 clear HC3 HL3
 have HT := Aside0.mk (below_alloc HB.out (.cells #[.slice A1 1 c1, .slice A2 1 c2, .slice A3 1 c3] 40))
 clear HB
 have HB := HT
 clear HT
 go_wp2_with fail
 refine (rowLit1 1 (w3.alloc (.cells #[.slice A1 1 c1, .slice A2 1 c2, .slice A3 1 c3] 40)) (by first | rfl | (go_simp; done) | (go_simp; rfl))).mono ?_
 rintro e w4 ⟨A4, c4, rfl, hl4, hC4, hb4⟩
 have HA_ := Aside0.mk (Kd.C_below HA.out hb4)
 clear HA
 have HA := HA_
 clear HA_
 have HT := Aside0.mk (below_step HB.out hb4)
 clear HB
 have HB := HT
 clear HT
 have HC4 := Aside0.mk hC4
 have HL4 := Aside0.mk hl4
 clear hC4 hl4 hb4
 go_wp2_with fail
 refine (rowLit1 3 (w4) (by first | rfl | (go_simp; done) | (go_simp; rfl))).mono ?_
 rintro e w5 ⟨A5, c5, rfl, hl5, hC5, hb5⟩
 have HA_ := Aside0.mk (Kd.C_below HA.out hb5)
 clear HA
 have HA := HA_
 clear HA_
 have HC4_ := Aside0.mk (Kd.C_below HC4.out hb5)
 clear HC4
 have HC4 := HC4_
 clear HC4_
 have HT := Aside0.mk (below_step HB.out hb5)
 clear HB
 have HB := HT
 clear HT
 have HC5 := Aside0.mk hC5
 have HL5 := Aside0.mk hl5
 clear hC5 hl5 hb5
 have HA_ := Aside0.mk (Kd.C_below HA.out (below_alloc (Below.refl _ _) (.cells #[.slice A4 1 c4, .slice A5 1 c5] 40)))
 clear HA
 have HA := HA_
 clear HA_
 have HC4_ := Aside0.mk (Kd.C_below HC4.out (below_alloc (Below.refl _ _) (.cells #[.slice A4 1 c4, .slice A5 1 c5] 40)))
 clear HC4
 have HC4 := HC4_
 clear HC4_
 have HC5_ := Aside0.mk (Kd.C_below HC5.out (below_alloc (Below.refl _ _) (.cells #[.slice A4 1 c4, .slice A5 1 c5] 40)))
 clear HC5
 have HC5 := HC5_
 clear HC5_
 have HBB : Aside0 (Kd.C (Kd.slice 61 k61) (w5.alloc (.cells #[.slice A4 1 c4, .slice A5 1 c5] 40)) _ 2 [[iV 1], [iV 3]]) := ⟨C_lit rfl (blk_new _ _) (Reps.one (rowK HC4.out HL4.out) (Reps.one (rowK HC5.out HL5.out) (Reps.none _ _))) (show 2 ≤ 1000 by decide)⟩
 clear HC4 HL4
 clear HC5 HL5
 have HT := Aside0.mk (below_alloc HB.out (.cells #[.slice A4 1 c4, .slice A5 1 c5] 40))
 clear HB
 have HB := HT
 clear HT
 go_wp2_with fail
 refine (rows_Both.calls _ _ [[iV 1], [iV 1], [iV 2]] _ _ [[iV 1], [iV 3]] true [[iV 1]] 0 _ HA.out (Nat.le_refl _) HBB.out (Nat.le_refl _) (HLD.out.below HB.out) (by exact aw_HX)).mono ?_
 rintro e w6 ⟨v6, rfl, hv6, hb6⟩
 obtain ⟨A6, c6, rfl, hl6, hC6⟩ := Kd.S_reads hv6
 have HA_ := Aside0.mk (Kd.C_below HA.out hb6)
 clear HA
 have HA := HA_
 clear HA_
 have HBB_ := Aside0.mk (Kd.C_below HBB.out hb6)
 clear HBB
 have HBB := HBB_
 clear HBB_
 have HT := Aside0.mk (below_step HB.out hb6)
 clear HB
 have HB := HT
 clear HT
 have HX := Aside0.mk hC6
 have LHX := Aside0.mk hl6
 clear hC6 hl6 hv6 hb6
 go_wp2_with fail
 refine (rows_Minus.calls _ _ [[iV 1], [iV 1], [iV 2]] _ _ [[iV 1], [iV 3]] true [[iV 1], [iV 2]] 0 _ HA.out (Nat.le_refl _) HBB.out (Nat.le_refl _) (HLD.out.below HB.out) (by exact aw_HY)).mono ?_
 rintro e w7 ⟨v7, rfl, hv7, hb7⟩
 obtain ⟨A7, c7, rfl, hl7, hC7⟩ := Kd.S_reads hv7
 have HA_ := Aside0.mk (Kd.C_below HA.out hb7)
 clear HA
 have HA := HA_
 clear HA_
 have HBB_ := Aside0.mk (Kd.C_below HBB.out hb7)
 clear HBB
 have HBB := HBB_
 clear HBB_
 have HX_ := Aside0.mk (Kd.C_below HX.out hb7)
 clear HX
 have HX := HX_
 clear HX_
 have HT := Aside0.mk (below_step HB.out hb7)
 clear HB
 have HB := HT
 clear HT
 have HY := Aside0.mk hC7
 have LHY := Aside0.mk hl7
 clear hC7 hl7 hv7 hb7
 go_wp2_with fail
 refine (rows_Minus.calls _ _ [[iV 1], [iV 1], [iV 2]] _ _ [[iV 1], [iV 3]] false [[iV 2]] 0 _ HA.out (Nat.le_refl _) HBB.out (Nat.le_refl _) (HLD.out.below HB.out) (by exact aw_HZ)).mono ?_
 rintro e w8 ⟨v8, rfl, hv8, hb8⟩
 obtain ⟨A8, c8, rfl, hl8, hC8⟩ := Kd.S_reads hv8
 have HA_ := Aside0.mk (Kd.C_below HA.out hb8)
 clear HA
 have HA := HA_
 clear HA_
 have HBB_ := Aside0.mk (Kd.C_below HBB.out hb8)
 clear HBB
 have HBB := HBB_
 clear HBB_
 have HX_ := Aside0.mk (Kd.C_below HX.out hb8)
 clear HX
 have HX := HX_
 clear HX_
 have HY_ := Aside0.mk (Kd.C_below HY.out hb8)
 clear HY
 have HY := HY_
 clear HY_
 have HT := Aside0.mk (below_step HB.out hb8)
 clear HB
 have HB := HT
 clear HT
 have HZ := Aside0.mk hC8
 have LHZ := Aside0.mk hl8
 clear hC8 hl8 hv8 hb8
 clear HA HBB
 go_wp2_with fail
 refine (rowLit2 1 2 (w8) (by first | rfl | (go_simp; done) | (go_simp; rfl))).mono ?_
 rintro e w9 ⟨A9, c9, rfl, hl9, hC9, hb9⟩
 have HX_ := Aside0.mk (Kd.C_below HX.out hb9)
 clear HX
 have HX := HX_
 clear HX_
 have HY_ := Aside0.mk (Kd.C_below HY.out hb9)
 clear HY
 have HY := HY_
 clear HY_
 have HZ_ := Aside0.mk (Kd.C_below HZ.out hb9)
 clear HZ
 have HZ := HZ_
 clear HZ_
 have HT := Aside0.mk (below_step HB.out hb9)
 clear HB
 have HB := HT
 clear HT
 have HC9 := Aside0.mk hC9
 have HL9 := Aside0.mk hl9
 clear hC9 hl9 hb9
 go_wp2_with fail
 refine (rowLit2 2 1 (w9) (by first | rfl | (go_simp; done) | (go_simp; rfl))).mono ?_
 rintro e w10 ⟨A10, c10, rfl, hl10, hC10, hb10⟩
 have HX_ := Aside0.mk (Kd.C_below HX.out hb10)
 clear HX
 have HX := HX_
 clear HX_
 have HY_ := Aside0.mk (Kd.C_below HY.out hb10)
 clear HY
 have HY := HY_
 clear HY_
 have HZ_ := Aside0.mk (Kd.C_below HZ.out hb10)
 clear HZ
 have HZ := HZ_
 clear HZ_
 have HC9_ := Aside0.mk (Kd.C_below HC9.out hb10)
 clear HC9
 have HC9 := HC9_
 clear HC9_
 have HT := Aside0.mk (below_step HB.out hb10)
 clear HB
 have HB := HT
 clear HT
 have HC10 := Aside0.mk hC10
 have HL10 := Aside0.mk hl10
 clear hC10 hl10 hb10
 go_wp2_with fail
 refine (rowLit2 1 1 (w10) (by first | rfl | (go_simp; done) | (go_simp; rfl))).mono ?_
 rintro e w11 ⟨A11, c11, rfl, hl11, hC11, hb11⟩
 have HX_ := Aside0.mk (Kd.C_below HX.out hb11)
 clear HX
 have HX := HX_
 clear HX_
 have HY_ := Aside0.mk (Kd.C_below HY.out hb11)
 clear HY
 have HY := HY_
 clear HY_
 have HZ_ := Aside0.mk (Kd.C_below HZ.out hb11)
 clear HZ
 have HZ := HZ_
 clear HZ_
 have HC9_ := Aside0.mk (Kd.C_below HC9.out hb11)
 clear HC9
 have HC9 := HC9_
 clear HC9_
 have HC10_ := Aside0.mk (Kd.C_below HC10.out hb11)
 clear HC10
 have HC10 := HC10_
 clear HC10_
 have HT := Aside0.mk (below_step HB.out hb11)
 clear HB
 have HB := HT
 clear HT
 have HC11 := Aside0.mk hC11
 have HL11 := Aside0.mk hl11
 clear hC11 hl11 hb11
 have HX_ := Aside0.mk (Kd.C_below HX.out (below_alloc (Below.refl _ _) (.cells #[.slice A9 2 c9, .slice A10 2 c10, .slice A11 2 c11] 40)))
 clear HX
 have HX := HX_
 clear HX_
 have HY_ := Aside0.mk (Kd.C_below HY.out (below_alloc (Below.refl _ _) (.cells #[.slice A9 2 c9, .slice A10 2 c10, .slice A11 2 c11] 40)))
 clear HY
 have HY := HY_
 clear HY_
 have HZ_ := Aside0.mk (Kd.C_below HZ.out (below_alloc (Below.refl _ _) (.cells #[.slice A9 2 c9, .slice A10 2 c10, .slice A11 2 c11] 40)))
 clear HZ
 have HZ := HZ_
 clear HZ_
 have HC9_ := Aside0.mk (Kd.C_below HC9.out (below_alloc (Below.refl _ _) (.cells #[.slice A9 2 c9, .slice A10 2 c10, .slice A11 2 c11] 40)))
 clear HC9
 have HC9 := HC9_
 clear HC9_
 have HC10_ := Aside0.mk (Kd.C_below HC10.out (below_alloc (Below.refl _ _) (.cells #[.slice A9 2 c9, .slice A10 2 c10, .slice A11 2 c11] 40)))
 clear HC10
 have HC10 := HC10_
 clear HC10_
 have HC11_ := Aside0.mk (Kd.C_below HC11.out (below_alloc (Below.refl _ _) (.cells #[.slice A9 2 c9, .slice A10 2 c10, .slice A11 2 c11] 40)))
 clear HC11
 have HC11 := HC11_
 clear HC11_
 have HO0 : Aside0 (Kd.C (Kd.slice 61 k61) (w11.alloc (.cells #[.slice A9 2 c9, .slice A10 2 c10, .slice A11 2 c11] 40)) _ 3 [[iV 1, iV 2], [iV 2, iV 1], [iV 1, iV 1]]) := ⟨C_lit rfl (blk_new _ _) (Reps.one (rowK HC9.out HL9.out) (Reps.one (rowK HC10.out HL10.out) (Reps.one (rowK HC11.out HL11.out) (Reps.none _ _)))) (show 3 ≤ 1000 by decide)⟩
 clear HC9 HL9
 clear HC10 HL10
 clear HC11 HL11
 have HT := Aside0.mk (below_alloc HB.out (.cells #[.slice A9 2 c9, .slice A10 2 c10, .slice A11 2 c11] 40))
 clear HB
 have HB := HT
 clear HT
 go_wp2_with fail
 have HX_ := Aside0.mk (Kd.C_below HX.out (below_alloc (Below.refl _ _) (.cells #[.int .i64 1, .bool true] 36)))
 clear HX
 have HX := HX_
 clear HX_
 have HY_ := Aside0.mk (Kd.C_below HY.out (below_alloc (Below.refl _ _) (.cells #[.int .i64 1, .bool true] 36)))
 clear HY
 have HY := HY_
 clear HY_
 have HZ_ := Aside0.mk (Kd.C_below HZ.out (below_alloc (Below.refl _ _) (.cells #[.int .i64 1, .bool true] 36)))
 clear HZ
 have HZ := HZ_
 clear HZ_
 have HO0_ := Aside0.mk (Kd.C_below HO0.out (below_alloc (Below.refl _ _) (.cells #[.int .i64 1, .bool true] 36)))
 clear HO0
 have HO0 := HO0_
 clear HO0_
 have HT := Aside0.mk (below_alloc HB.out (.cells #[.int .i64 1, .bool true] 36))
 clear HB
 have HB := HT
 clear HT
 have HKY : Aside0 (Kd.C k36 ((w11.alloc (.cells #[.slice A9 2 c9, .slice A10 2 c10, .slice A11 2 c11] 40)).alloc (.cells #[.int .i64 1, .bool true] 36)) (some ⟨w11.heap.size + 1, 0, none⟩) 1 [(⟨1, true⟩ : KK)]) := ⟨keyLit2 _ _⟩
 refine (rows_Ordered.calls _ _ [[iV 1, iV 2], [iV 2, iV 1], [iV 1, iV 1]] _ _ [(⟨1, true⟩ : KK)] [[iV 1, iV 2], [iV 1, iV 1], [iV 2, iV 1]] 0 _ HO0.out (Nat.le_refl _) HKY.out (Nat.le_refl _) (by exact aw_HOO)).mono ?_
 rintro e w12 ⟨v12, rfl, hv12, hb12⟩
 obtain ⟨A12, c12, rfl, hl12, hC12⟩ := Kd.S_reads hv12
 clear HO0 HKY
 have HX_ := Aside0.mk (Kd.C_below HX.out hb12)
 clear HX
 have HX := HX_
 clear HX_
 have HY_ := Aside0.mk (Kd.C_below HY.out hb12)
 clear HY
 have HY := HY_
 clear HY_
 have HZ_ := Aside0.mk (Kd.C_below HZ.out hb12)
 clear HZ
 have HZ := HZ_
 clear HZ_
 have HT := Aside0.mk (below_step HB.out hb12)
 clear HB
 have HB := HT
 clear HT
 have HOO := Aside0.mk hC12
 have LHOO := Aside0.mk hl12
 clear hC12 hl12 hv12 hb12
 go_wp2_with fail
 refine (rowLit2 1 2 (w12) (by first | rfl | (go_simp; done) | (go_simp; rfl))).mono ?_
 rintro e w13 ⟨A13, c13, rfl, hl13, hC13, hb13⟩
 have HX_ := Aside0.mk (Kd.C_below HX.out hb13)
 clear HX
 have HX := HX_
 clear HX_
 have HY_ := Aside0.mk (Kd.C_below HY.out hb13)
 clear HY
 have HY := HY_
 clear HY_
 have HZ_ := Aside0.mk (Kd.C_below HZ.out hb13)
 clear HZ
 have HZ := HZ_
 clear HZ_
 have HOO_ := Aside0.mk (Kd.C_below HOO.out hb13)
 clear HOO
 have HOO := HOO_
 clear HOO_
 have HT := Aside0.mk (below_step HB.out hb13)
 clear HB
 have HB := HT
 clear HT
 have HC13 := Aside0.mk hC13
 have HL13 := Aside0.mk hl13
 clear hC13 hl13 hb13
 have HX_ := Aside0.mk (Kd.C_below HX.out (below_alloc (Below.refl _ _) (.cells #[.slice A13 2 c13, .slice none 0 0] 40)))
 clear HX
 have HX := HX_
 clear HX_
 have HY_ := Aside0.mk (Kd.C_below HY.out (below_alloc (Below.refl _ _) (.cells #[.slice A13 2 c13, .slice none 0 0] 40)))
 clear HY
 have HY := HY_
 clear HY_
 have HZ_ := Aside0.mk (Kd.C_below HZ.out (below_alloc (Below.refl _ _) (.cells #[.slice A13 2 c13, .slice none 0 0] 40)))
 clear HZ
 have HZ := HZ_
 clear HZ_
 have HOO_ := Aside0.mk (Kd.C_below HOO.out (below_alloc (Below.refl _ _) (.cells #[.slice A13 2 c13, .slice none 0 0] 40)))
 clear HOO
 have HOO := HOO_
 clear HOO_
 have HC13_ := Aside0.mk (Kd.C_below HC13.out (below_alloc (Below.refl _ _) (.cells #[.slice A13 2 c13, .slice none 0 0] 40)))
 clear HC13
 have HC13 := HC13_
 clear HC13_
 have HS0 : Aside0 (Kd.C (Kd.slice 61 k61) (w13.alloc (.cells #[.slice A13 2 c13, .slice none 0 0] 40)) _ 2 [[iV 1, iV 2], []]) := ⟨C_lit rfl (blk_new _ _) (Reps.one (rowK HC13.out HL13.out) (Reps.one rowKnil (Reps.none _ _))) (show 2 ≤ 1000 by decide)⟩
 clear HC13 HL13
 have HT := Aside0.mk (below_alloc HB.out (.cells #[.slice A13 2 c13, .slice none 0 0] 40))
 clear HB
 have HB := HT
 clear HT
 go_wp2_with fail
 refine (rows_String.calls _ _ [[iV 1, iV 2], []] ⟨#[40, 49, 44, 32, 50, 41, 10, 40, 41, 10]⟩ 0 _ HS0.out (Nat.le_refl _) (HLD.out.below HB.out) (by exact aw_S)).mono ?_
 rintro e w14 ⟨rfl, hb14⟩
 clear HS0
 have HX_ := Aside0.mk (Kd.C_below HX.out hb14)
 clear HX
 have HX := HX_
 clear HX_
 have HY_ := Aside0.mk (Kd.C_below HY.out hb14)
 clear HY
 have HY := HY_
 clear HY_
 have HZ_ := Aside0.mk (Kd.C_below HZ.out hb14)
 clear HZ
 have HZ := HZ_
 clear HZ_
 have HOO_ := Aside0.mk (Kd.C_below HOO.out hb14)
 clear HOO
 have HOO := HOO_
 clear HOO_
 have HT := Aside0.mk (below_step HB.out hb14)
 clear HB hb14
 have HB := HT
 clear HT
 go_wp2_with fail
 refine (rowLit1 1 (w14) (by first | rfl | (go_simp; done) | (go_simp; rfl))).mono ?_
 rintro e w15 ⟨A15, c15, rfl, hl15, hC15, hb15⟩
 have HX_ := Aside0.mk (Kd.C_below HX.out hb15)
 clear HX
 have HX := HX_
 clear HX_
 have HY_ := Aside0.mk (Kd.C_below HY.out hb15)
 clear HY
 have HY := HY_
 clear HY_
 have HZ_ := Aside0.mk (Kd.C_below HZ.out hb15)
 clear HZ
 have HZ := HZ_
 clear HZ_
 have HOO_ := Aside0.mk (Kd.C_below HOO.out hb15)
 clear HOO
 have HOO := HOO_
 clear HOO_
 have HT := Aside0.mk (below_step HB.out hb15)
 clear HB
 have HB := HT
 clear HT
 have HC15 := Aside0.mk hC15
 have HL15 := Aside0.mk hl15
 clear hC15 hl15 hb15
 have HX_ := Aside0.mk (Kd.C_below HX.out (below_alloc (Below.refl _ _) (.cells #[.slice A15 1 c15] 40)))
 clear HX
 have HX := HX_
 clear HX_
 have HY_ := Aside0.mk (Kd.C_below HY.out (below_alloc (Below.refl _ _) (.cells #[.slice A15 1 c15] 40)))
 clear HY
 have HY := HY_
 clear HY_
 have HZ_ := Aside0.mk (Kd.C_below HZ.out (below_alloc (Below.refl _ _) (.cells #[.slice A15 1 c15] 40)))
 clear HZ
 have HZ := HZ_
 clear HZ_
 have HOO_ := Aside0.mk (Kd.C_below HOO.out (below_alloc (Below.refl _ _) (.cells #[.slice A15 1 c15] 40)))
 clear HOO
 have HOO := HOO_
 clear HOO_
 have HC15_ := Aside0.mk (Kd.C_below HC15.out (below_alloc (Below.refl _ _) (.cells #[.slice A15 1 c15] 40)))
 clear HC15
 have HC15 := HC15_
 clear HC15_
 have HQ : Aside0 (Kd.C (Kd.slice 61 k61) (w15.alloc (.cells #[.slice A15 1 c15] 40)) _ 1 [[iV 1]]) := ⟨C_lit rfl (blk_new _ _) (Reps.one (rowK HC15.out HL15.out) (Reps.none _ _)) (show 1 ≤ 1000 by decide)⟩
 clear HC15 HL15
 have HT := Aside0.mk (below_alloc HB.out (.cells #[.slice A15 1 c15] 40))
 clear HB
 have HB := HT
 clear HT
 go_wp2_with fail
 refine (tacticianref02_Equal.calls 20 _ _ [[iV 1]] _ _ [[iV 1]] true _ HX.out LHX.out HQ.out (Nat.le_refl _) (by decide +kernel)).mono ?_
 rintro e w16 ⟨rfl, hb16⟩
 replace hb16 := below_any hb16
 clear HQ
 have HX_ := Aside0.mk (Kd.C_below HX.out hb16)
 clear HX
 have HX := HX_
 clear HX_
 have HY_ := Aside0.mk (Kd.C_below HY.out hb16)
 clear HY
 have HY := HY_
 clear HY_
 have HZ_ := Aside0.mk (Kd.C_below HZ.out hb16)
 clear HZ
 have HZ := HZ_
 clear HZ_
 have HOO_ := Aside0.mk (Kd.C_below HOO.out hb16)
 clear HOO
 have HOO := HOO_
 clear HOO_
 have HT := Aside0.mk (below_step HB.out hb16)
 clear HB hb16
 have HB := HT
 clear HT
 clear HX LHX
 go_wp2_with fail
 refine (rowLit1 1 (w16) (by first | rfl | (go_simp; done) | (go_simp; rfl))).mono ?_
 rintro e w17 ⟨A17, c17, rfl, hl17, hC17, hb17⟩
 have HY_ := Aside0.mk (Kd.C_below HY.out hb17)
 clear HY
 have HY := HY_
 clear HY_
 have HZ_ := Aside0.mk (Kd.C_below HZ.out hb17)
 clear HZ
 have HZ := HZ_
 clear HZ_
 have HOO_ := Aside0.mk (Kd.C_below HOO.out hb17)
 clear HOO
 have HOO := HOO_
 clear HOO_
 have HT := Aside0.mk (below_step HB.out hb17)
 clear HB
 have HB := HT
 clear HT
 have HC17 := Aside0.mk hC17
 have HL17 := Aside0.mk hl17
 clear hC17 hl17 hb17
 go_wp2_with fail
 refine (rowLit1 2 (w17) (by first | rfl | (go_simp; done) | (go_simp; rfl))).mono ?_
 rintro e w18 ⟨A18, c18, rfl, hl18, hC18, hb18⟩
 have HY_ := Aside0.mk (Kd.C_below HY.out hb18)
 clear HY
 have HY := HY_
 clear HY_
 have HZ_ := Aside0.mk (Kd.C_below HZ.out hb18)
 clear HZ
 have HZ := HZ_
 clear HZ_
 have HOO_ := Aside0.mk (Kd.C_below HOO.out hb18)
 clear HOO
 have HOO := HOO_
 clear HOO_
 have HC17_ := Aside0.mk (Kd.C_below HC17.out hb18)
 clear HC17
 have HC17 := HC17_
 clear HC17_
 have HT := Aside0.mk (below_step HB.out hb18)
 clear HB
 have HB := HT
 clear HT
 have HC18 := Aside0.mk hC18
 have HL18 := Aside0.mk hl18
 clear hC18 hl18 hb18
 have HY_ := Aside0.mk (Kd.C_below HY.out (below_alloc (Below.refl _ _) (.cells #[.slice A17 1 c17, .slice A18 1 c18] 40)))
 clear HY
 have HY := HY_
 clear HY_
 have HZ_ := Aside0.mk (Kd.C_below HZ.out (below_alloc (Below.refl _ _) (.cells #[.slice A17 1 c17, .slice A18 1 c18] 40)))
 clear HZ
 have HZ := HZ_
 clear HZ_
 have HOO_ := Aside0.mk (Kd.C_below HOO.out (below_alloc (Below.refl _ _) (.cells #[.slice A17 1 c17, .slice A18 1 c18] 40)))
 clear HOO
 have HOO := HOO_
 clear HOO_
 have HC17_ := Aside0.mk (Kd.C_below HC17.out (below_alloc (Below.refl _ _) (.cells #[.slice A17 1 c17, .slice A18 1 c18] 40)))
 clear HC17
 have HC17 := HC17_
 clear HC17_
 have HC18_ := Aside0.mk (Kd.C_below HC18.out (below_alloc (Below.refl _ _) (.cells #[.slice A17 1 c17, .slice A18 1 c18] 40)))
 clear HC18
 have HC18 := HC18_
 clear HC18_
 have HQ : Aside0 (Kd.C (Kd.slice 61 k61) (w18.alloc (.cells #[.slice A17 1 c17, .slice A18 1 c18] 40)) _ 2 [[iV 1], [iV 2]]) := ⟨C_lit rfl (blk_new _ _) (Reps.one (rowK HC17.out HL17.out) (Reps.one (rowK HC18.out HL18.out) (Reps.none _ _))) (show 2 ≤ 1000 by decide)⟩
 clear HC17 HL17
 clear HC18 HL18
 have HT := Aside0.mk (below_alloc HB.out (.cells #[.slice A17 1 c17, .slice A18 1 c18] 40))
 clear HB
 have HB := HT
 clear HT
 go_wp2_with fail
 refine (tacticianref02_Equal.calls 20 _ _ [[iV 1], [iV 2]] _ _ [[iV 1], [iV 2]] true _ HY.out LHY.out HQ.out (Nat.le_refl _) (by decide +kernel)).mono ?_
 rintro e w19 ⟨rfl, hb19⟩
 replace hb19 := below_any hb19
 clear HQ
 have HY_ := Aside0.mk (Kd.C_below HY.out hb19)
 clear HY
 have HY := HY_
 clear HY_
 have HZ_ := Aside0.mk (Kd.C_below HZ.out hb19)
 clear HZ
 have HZ := HZ_
 clear HZ_
 have HOO_ := Aside0.mk (Kd.C_below HOO.out hb19)
 clear HOO
 have HOO := HOO_
 clear HOO_
 have HT := Aside0.mk (below_step HB.out hb19)
 clear HB hb19
 have HB := HT
 clear HT
 clear HY LHY
 go_wp2_with fail
 refine (rowLit1 2 (w19) (by first | rfl | (go_simp; done) | (go_simp; rfl))).mono ?_
 rintro e w20 ⟨A20, c20, rfl, hl20, hC20, hb20⟩
 have HZ_ := Aside0.mk (Kd.C_below HZ.out hb20)
 clear HZ
 have HZ := HZ_
 clear HZ_
 have HOO_ := Aside0.mk (Kd.C_below HOO.out hb20)
 clear HOO
 have HOO := HOO_
 clear HOO_
 have HT := Aside0.mk (below_step HB.out hb20)
 clear HB
 have HB := HT
 clear HT
 have HC20 := Aside0.mk hC20
 have HL20 := Aside0.mk hl20
 clear hC20 hl20 hb20
 have HZ_ := Aside0.mk (Kd.C_below HZ.out (below_alloc (Below.refl _ _) (.cells #[.slice A20 1 c20] 40)))
 clear HZ
 have HZ := HZ_
 clear HZ_
 have HOO_ := Aside0.mk (Kd.C_below HOO.out (below_alloc (Below.refl _ _) (.cells #[.slice A20 1 c20] 40)))
 clear HOO
 have HOO := HOO_
 clear HOO_
 have HC20_ := Aside0.mk (Kd.C_below HC20.out (below_alloc (Below.refl _ _) (.cells #[.slice A20 1 c20] 40)))
 clear HC20
 have HC20 := HC20_
 clear HC20_
 have HQ : Aside0 (Kd.C (Kd.slice 61 k61) (w20.alloc (.cells #[.slice A20 1 c20] 40)) _ 1 [[iV 2]]) := ⟨C_lit rfl (blk_new _ _) (Reps.one (rowK HC20.out HL20.out) (Reps.none _ _)) (show 1 ≤ 1000 by decide)⟩
 clear HC20 HL20
 have HT := Aside0.mk (below_alloc HB.out (.cells #[.slice A20 1 c20] 40))
 clear HB
 have HB := HT
 clear HT
 go_wp2_with fail
 refine (tacticianref02_Equal.calls 20 _ _ [[iV 2]] _ _ [[iV 2]] true _ HZ.out LHZ.out HQ.out (Nat.le_refl _) (by decide +kernel)).mono ?_
 rintro e w21 ⟨rfl, hb21⟩
 replace hb21 := below_any hb21
 clear HQ
 have HZ_ := Aside0.mk (Kd.C_below HZ.out hb21)
 clear HZ
 have HZ := HZ_
 clear HZ_
 have HOO_ := Aside0.mk (Kd.C_below HOO.out hb21)
 clear HOO
 have HOO := HOO_
 clear HOO_
 have HT := Aside0.mk (below_step HB.out hb21)
 clear HB hb21
 have HB := HT
 clear HT
 clear HZ LHZ
 go_wp2_with fail
 refine (rowLit2 1 2 (w21) (by first | rfl | (go_simp; done) | (go_simp; rfl))).mono ?_
 rintro e w22 ⟨A22, c22, rfl, hl22, hC22, hb22⟩
 have HOO_ := Aside0.mk (Kd.C_below HOO.out hb22)
 clear HOO
 have HOO := HOO_
 clear HOO_
 have HT := Aside0.mk (below_step HB.out hb22)
 clear HB
 have HB := HT
 clear HT
 have HC22 := Aside0.mk hC22
 have HL22 := Aside0.mk hl22
 clear hC22 hl22 hb22
 go_wp2_with fail
 refine (rowLit2 1 1 (w22) (by first | rfl | (go_simp; done) | (go_simp; rfl))).mono ?_
 rintro e w23 ⟨A23, c23, rfl, hl23, hC23, hb23⟩
 have HOO_ := Aside0.mk (Kd.C_below HOO.out hb23)
 clear HOO
 have HOO := HOO_
 clear HOO_
 have HC22_ := Aside0.mk (Kd.C_below HC22.out hb23)
 clear HC22
 have HC22 := HC22_
 clear HC22_
 have HT := Aside0.mk (below_step HB.out hb23)
 clear HB
 have HB := HT
 clear HT
 have HC23 := Aside0.mk hC23
 have HL23 := Aside0.mk hl23
 clear hC23 hl23 hb23
 go_wp2_with fail
 refine (rowLit2 2 1 (w23) (by first | rfl | (go_simp; done) | (go_simp; rfl))).mono ?_
 rintro e w24 ⟨A24, c24, rfl, hl24, hC24, hb24⟩
 have HOO_ := Aside0.mk (Kd.C_below HOO.out hb24)
 clear HOO
 have HOO := HOO_
 clear HOO_
 have HC22_ := Aside0.mk (Kd.C_below HC22.out hb24)
 clear HC22
 have HC22 := HC22_
 clear HC22_
 have HC23_ := Aside0.mk (Kd.C_below HC23.out hb24)
 clear HC23
 have HC23 := HC23_
 clear HC23_
 have HT := Aside0.mk (below_step HB.out hb24)
 clear HB
 have HB := HT
 clear HT
 have HC24 := Aside0.mk hC24
 have HL24 := Aside0.mk hl24
 clear hC24 hl24 hb24
 have HOO_ := Aside0.mk (Kd.C_below HOO.out (below_alloc (Below.refl _ _) (.cells #[.slice A22 2 c22, .slice A23 2 c23, .slice A24 2 c24] 40)))
 clear HOO
 have HOO := HOO_
 clear HOO_
 have HC22_ := Aside0.mk (Kd.C_below HC22.out (below_alloc (Below.refl _ _) (.cells #[.slice A22 2 c22, .slice A23 2 c23, .slice A24 2 c24] 40)))
 clear HC22
 have HC22 := HC22_
 clear HC22_
 have HC23_ := Aside0.mk (Kd.C_below HC23.out (below_alloc (Below.refl _ _) (.cells #[.slice A22 2 c22, .slice A23 2 c23, .slice A24 2 c24] 40)))
 clear HC23
 have HC23 := HC23_
 clear HC23_
 have HC24_ := Aside0.mk (Kd.C_below HC24.out (below_alloc (Below.refl _ _) (.cells #[.slice A22 2 c22, .slice A23 2 c23, .slice A24 2 c24] 40)))
 clear HC24
 have HC24 := HC24_
 clear HC24_
 have HQ : Aside0 (Kd.C (Kd.slice 61 k61) (w24.alloc (.cells #[.slice A22 2 c22, .slice A23 2 c23, .slice A24 2 c24] 40)) _ 3 [[iV 1, iV 2], [iV 1, iV 1], [iV 2, iV 1]]) := ⟨C_lit rfl (blk_new _ _) (Reps.one (rowK HC22.out HL22.out) (Reps.one (rowK HC23.out HL23.out) (Reps.one (rowK HC24.out HL24.out) (Reps.none _ _)))) (show 3 ≤ 1000 by decide)⟩
 clear HC22 HL22
 clear HC23 HL23
 clear HC24 HL24
 have HT := Aside0.mk (below_alloc HB.out (.cells #[.slice A22 2 c22, .slice A23 2 c23, .slice A24 2 c24] 40))
 clear HB
 have HB := HT
 clear HT
 go_wp2_with fail
 refine (tacticianref02_Equal.calls 20 _ _ [[iV 1, iV 2], [iV 1, iV 1], [iV 2, iV 1]] _ _ [[iV 1, iV 2], [iV 1, iV 1], [iV 2, iV 1]] true _ HOO.out LHOO.out HQ.out (Nat.le_refl _) (by decide +kernel)).mono ?_
 rintro e w25 ⟨rfl, hb25⟩
 replace hb25 := below_any hb25
 clear HQ
 have HOO_ := Aside0.mk (Kd.C_below HOO.out hb25)
 clear HOO
 have HOO := HOO_
 clear HOO_
 have HT := Aside0.mk (below_step HB.out hb25)
 clear HB hb25
 have HB := HT
 clear HT
 clear HOO LHOO
 go_wp2
 go_ret
 exact ⟨rfl, HB.out⟩
end
end Go.Proofs.YtmhobbdedmjmnaaGreatDoor.Q
end
section
/- Each function reached is shown to return what the plain function beside it computes, wherever that is defined (written by a program of ours for this seat). -/
namespace Go.Proofs.YtmhobbdedmjmnaaGreatDoor.Q
open Go.RowKit Go.Proofs.YtmhobbdedmjmnaaGreatDoorW.PrintWords Go.Proofs.YtmhobbdedmjmnaaGreatDoorW.PrintLast Go.Proofs.YtmhobbdedmjmnaaGreatDoorW.PrintMore
attribute [local go_sem] max2_int min2_int max_two min_two max_three min_three max_four min_four   -- for this text's walks alone
set_option linter.unusedVariables false
set_option linter.unusedSimpArgs false
mutual
def tacticianlaw02_RowsTogether.j0 : Nat → Bool → List (List (S61)) → List (List (S61)) → Int → Option (Bool)
  | 0, _, _, _, _ => none
  | k + 1, x3, x9, x10, x11 => (some (([] : List (List (S61))) : List (List (S61)))).bind fun y598 => (if 0 ≤ x11 then (if x11 ≤ (x9.length : Int) then ((some (x9.drop (x11 : Int).toNat : List (List (S61)))).bind fun y601 => (if y598.length + y601.length < 5864062014805 then ((some (y598 ++ y601 : List (List (S61)))).bind fun y606 => ((some (x9.take (x11 : Int).toNat : List (List (S61)))).bind fun y609 => (if y606.length + y609.length < 5864062014805 then ((rows_Canonical.f x9).bind fun bt617 => ((rows_Canonical.f (y606 ++ y609)).bind fun bt621 => ((rows_Same.f x9 x10).bind fun bt625 => (if bt617.2 = 0 then (if bt621.2 = 0 then (if bt625.2 = 0 then ((tacticianref02_Equal.f k bt617.1 bt621.1).bind fun t627 => (if t627 = true then (tacticianlaw02_RowsTogether.j1 k x3 x9 x10 bt617.1 bt625.1 ((bt617.1.length : Int) != (x9.length : Int))) else (tacticianlaw02_RowsTogether.j1 k x3 x9 x10 bt617.1 bt625.1 true))) else (tacticianlaw02_RowsTogether.j1 k x3 x9 x10 bt617.1 bt625.1 true)) else (tacticianlaw02_RowsTogether.j1 k x3 x9 x10 bt617.1 bt625.1 true)) else (tacticianlaw02_RowsTogether.j1 k x3 x9 x10 bt617.1 bt625.1 true))))) else (none)))) else (none))) else (none)) else (none))
def tacticianlaw02_RowsTogether.j1 : Nat → Bool → List (List (S61)) → List (List (S61)) → List (List (S61)) → Bool → Bool → Option (Bool)
  | 0, _, _, _, _, _, _ => none
  | k + 1, x3, x9, x10, x13, x17, x93 => if x93 = true then (some false) else (tacticianlaw02_RowsTogether.l0 k x3 x9 x10 x13 x17 ((x9.length : Int) == (x10.length : Int)) 0)
def tacticianlaw02_RowsTogether.l0 : Nat → Bool → List (List (S61)) → List (List (S61)) → List (List (S61)) → Bool → Bool → Int → Option (Bool)
  | 0, _, _, _, _, _, _, _ => none
  | k + 1, x3, x9, x10, x13, x17, x19, x20 => if x20 < (x9.length : Int) then (if 0 ≤ x20 then ((rows_Times.f x9 (rd_L3 x9 x20)).bind fun bt629 => ((rows_Times.f x10 (rd_L3 x9 x20)).bind fun bt632 => (if bt629.2 = 0 then (if bt632.2 = 0 then (if x19 = true then (tacticianlaw02_RowsTogether.l0 k x3 x9 x10 x13 x17 (bt629.1 == bt632.1) (wrap64 (x20 + 1))) else (tacticianlaw02_RowsTogether.l0 k x3 x9 x10 x13 x17 false (wrap64 (x20 + 1)))) else (some false)) else (some false)))) else (none)) else (if (x17 != x19) = true then (some false) else ((rows_Both.f x9 x10 x3).bind fun bt634 => ((rows_Minus.f x9 x10 x3).bind fun bt638 => (if x3 = true then (tacticianlaw02_RowsTogether.j3 k bt634.1 bt634.2 bt638.1 bt638.2 x13) else ((rows_Distinct.f x9).bind fun bt642 => (if bt642.2 = 0 then (tacticianlaw02_RowsTogether.j3 k bt634.1 bt634.2 bt638.1 bt638.2 bt642.1) else (some false)))))))
def tacticianlaw02_RowsTogether.j3 : Nat → List (List (S61)) → Int → List (List (S61)) → Int → List (List (S61)) → Option (Bool)
  | 0, _, _, _, _, _ => none
  | k + 1, x25, x26, x27, x28, x29 => if x26 = 0 then (if x28 = 0 then (tacticianlaw02_RowsTogether.j4 k x25 x27 x29 ((wrap64 ((x25.length : Int) + (x27.length : Int))) != (x29.length : Int))) else (tacticianlaw02_RowsTogether.j4 k x25 x27 x29 true)) else (tacticianlaw02_RowsTogether.j4 k x25 x27 x29 true)
def tacticianlaw02_RowsTogether.j4 : Nat → List (List (S61)) → List (List (S61)) → List (List (S61)) → Bool → Option (Bool)
  | 0, _, _, _, _ => none
  | k + 1, x25, x27, x29, x178 => if x178 = true then (some false) else ((some (([] : List (List (S61))) : List (List (S61)))).bind fun y646 => (if y646.length + x25.length < 5864062014805 then ((some (y646 ++ x25 : List (List (S61)))).bind fun y649 => (if y649.length + x27.length < 5864062014805 then ((rows_Canonical.f (y649 ++ x27)).bind fun bt655 => (if bt655.2 = 0 then ((tacticianref02_Equal.f k bt655.1 x29).bind fun t659 => (if t659 = true then ((tacticianlaw02_awake.f).bind fun t660 => (some t660)) else (some false))) else (some false))) else (none))) else (none)))
end
def tacticianlaw02_RowsTogether.f (k : Nat) (l0 : List (List (S61))) (l1 : List (List (S61))) (a2 : Int) (a3 : Bool) : Option (Bool) := (tacticianlaw02_some.f k l0 14).bind fun t592 => ((tacticianlaw02_some.f k l1 14).bind fun t595 => (if (t592.length : Int) > 0 then (if (t592.length : Int) = 0 then (none) else (tacticianlaw02_RowsTogether.j0 k a3 t592 t595 (Int.tmod (wrap64 (a2)) (t592.length : Int)))) else (tacticianlaw02_RowsTogether.j0 k a3 t592 t595 0)))
def tacticianlaw02_RowsTogether.T5 : Bool × List (List Nat × List Nat) := (true, [([], []), ([], []), ([], []), ([1, 2], [1, 2]), ([0, 3], [0, 3]), ([], []), ([], []), ([5, 6], [5, 6]), ([4, 7, 4], [4, 7]), ([8, 8, 0, 1, 2, 3, 4, 5, 6, 7, 8], [8])])
def tacticianlaw02_RowsTogether.B5 : List Nat := [0, 0, 0, 6, 15, 0, 0, 96, 255, 511]
theorem tacticianlaw02_RowsTogether.tab5 : rtab .any (opsOf Tryz.f10 5) = tacticianlaw02_RowsTogether.T5 := by kernel_rfl
theorem tacticianlaw02_RowsTogether.bits5 : waitsOk tacticianlaw02_RowsTogether.T5.2 tacticianlaw02_RowsTogether.B5 = true := by kernel_rfl
set_option maxHeartbeats 8000000 in
set_option maxRecDepth 100000 in
theorem tacticianlaw02_RowsTogether.calls (k : Nat) (A0 : Option Addr) (c0 : Nat) (l0 : List (List (S61))) (A1 : Option Addr) (c1 : Nat) (l1 : List (List (S61))) (a2 : Int) (a3 : Bool) (r : Bool) (w : World) (hr0 : Kd.C (Kd.slice 61 k61) w A0 l0.length l0) (hc0 : l0.length ≤ c0) (hr1 : Kd.C (Kd.slice 61 k61) w A1 l1.length l1) (hc1 : l1.length ≤ c1) (hL_ : Laid w) (hr_ : Aside0 (r = true)) (h : tacticianlaw02_RowsTogether.f k l0 l1 a2 a3 = some r) :
  Calls Tryz.prog 10 #[.slice A0 l0.length c0, .slice A1 l1.length c1, .int .u8 a2, .bool a3] w fun e w' => e = .returned (.bool r) ∧ Below w.heap.size w w' := by
 have HLD := Aside0.mk hL_
 clear hL_
 have HR0 := Aside0.mk hr0
 have HC0 := Aside0.mk hc0
 clear hr0 hc0
 have HR1 := Aside0.mk hr1
 have HC1 := Aside0.mk hc1
 clear hr1 hc1
 have HB := Aside0.mk (Below.refl w.heap.size w)
 have H : ((tacticianlaw02_some.f k l0 14).bind fun t592 => ((tacticianlaw02_some.f k l1 14).bind fun t595 => (if (t592.length : Int) > 0 then (if (t592.length : Int) = 0 then (none) else (tacticianlaw02_RowsTogether.j0 k a3 t592 t595 (Int.tmod (wrap64 (a2)) (t592.length : Int)))) else (tacticianlaw02_RowsTogether.j0 k a3 t592 t595 0)))) = some r := h
 clear h
 replace H := Option.bind_eq_some_iff.mp H
 obtain ⟨t592, A50, H⟩ := H
 replace H : ((tacticianlaw02_some.f k l1 14).bind fun t595 => (if (t592.length : Int) > 0 then (if (t592.length : Int) = 0 then (none) else (tacticianlaw02_RowsTogether.j0 k a3 t592 t595 (Int.tmod (wrap64 (a2)) (t592.length : Int)))) else (tacticianlaw02_RowsTogether.j0 k a3 t592 t595 0))) = some r := H
 have A5 := Aside0.mk A50
 clear A50
 replace H := Option.bind_eq_some_iff.mp H
 obtain ⟨t595, A60, H⟩ := H
 replace H : (if (t592.length : Int) > 0 then (if (t592.length : Int) = 0 then (none) else (tacticianlaw02_RowsTogether.j0 k a3 t592 t595 (Int.tmod (wrap64 (a2)) (t592.length : Int)))) else (tacticianlaw02_RowsTogether.j0 k a3 t592 t595 0)) = some r := H
 have A6 := Aside0.mk A60
 clear A60
 have HC7 := Aside0.mk H
 clear H
 go_enter Tryz.func10, Tryz.ntmps10
 go_upto_if 40 with (first | ((with_reducible refine gate_callee (f := 38) rfl ?_); refine goesL_ (some 35) rfl rfl Tryz.func38 (by kernel_rfl) rfl #[.slice A0 l0.length c0, .int .i64 14] rfl (by (try simp only [List.map_toArray, List.map_cons, List.map_nil]); first | done | rfl | (simp only [List.length_drop, List.length_take]; rfl)) ?_; (with_reducible refine (tacticianlaw02_some.calls k _ _ l0 14 t592 _ ?side1 ?side2 A5.out).mono ?_); (case side1 => repeat (first | exact HR0.out | (with_reducible refine Kd.C_alloc ?_ _) | (with_reducible refine Kd.C_drewN ?_ _) | (with_reducible refine Kd.C_drew ?_))); (case side2 => exact HC0.out); rintro e w8 ⟨v593, rfl, ho0, hb⟩; refine ⟨_, rfl, ?_⟩; have n0_ := Aside0.mk (Kd.N_lower (Kd.N_mono (ok' := fun k_ => True) (Kd.S_N (Kd.S_bound ho0)) (fun k_ hk_ => trivial)) (below_size (by repeat (first | (with_reducible first | exact HB.out | apply yA | apply yN | apply yD) | exact HB.out)))); have n1_ := Aside0.mk (below_step (by repeat (first | (with_reducible first | exact HB.out | apply yA | apply yN | apply yD) | exact HB.out)) hb); clear HB; have HO594 := n0_; have HB := n1_; clear n0_ n1_; (try clear hb); (try clear hb2); (try clear hk); (try clear hi); (try clear ho0)) | ((with_reducible refine gate_callee (f := 38) rfl ?_); refine goesL_ (some 37) rfl rfl Tryz.func38 (by kernel_rfl) rfl #[.slice A1 l1.length c1, .int .i64 14] rfl (by (try simp only [List.map_toArray, List.map_cons, List.map_nil]); first | done | rfl | (simp only [List.length_drop, List.length_take]; rfl)) ?_; (with_reducible refine (tacticianlaw02_some.calls k _ _ l1 14 t595 _ ?side1 ?side2 A6.out).mono ?_); (case side1 => repeat (first | exact (Kd.C_below HR1.out HB.out) | (with_reducible refine Kd.C_alloc ?_ _) | (with_reducible refine Kd.C_drewN ?_ _) | (with_reducible refine Kd.C_drew ?_))); (case side2 => exact HC1.out); rintro e w9 ⟨v596, rfl, ho0, hb⟩; refine ⟨_, rfl, ?_⟩; have n0_ := Aside0.mk (Kd.N_elder' (by (with_reducible repeat (first | apply Kd.N_alloc | apply Kd.N_drewN | apply Kd.N_drew)); exact HO594.out) (Kd.N_base (Kd.S_N ho0)) hb); have n1_ := Aside0.mk (Kd.N_lower (Kd.N_mono (ok' := fun k_ => some k_ ≠ (v593 : Value).ownBlock) (Kd.S_N (Kd.S_bound ho0)) (fun k_ hk_ => (Kd.fresh' (Kd.N_lt (by (with_reducible repeat (first | apply Kd.N_alloc | apply Kd.N_drewN | apply Kd.N_drew)); exact HO594.out)) k_ hk_.2.1))) (below_size (by repeat (first | (with_reducible first | exact HB.out | apply yA | apply yN | apply yD) | exact HB.out)))); have n2_ := Aside0.mk (below_step (by repeat (first | (with_reducible first | exact HB.out | apply yA | apply yN | apply yD) | exact HB.out)) hb); clear HO594; clear HB; have HO594 := n0_; have HO597 := n1_; have HB := n2_; clear n0_ n1_ n2_; (try clear hb); (try clear hb2); (try clear hk); (try clear hi); (try clear ho0); obtain ⟨Ao10, co10, eo10⟩ := Kd.N_slice HO594.out; subst eo10))
 (try simp only [Act.put, List.setIfInBounds_toArray, List.set_cons_zero, List.set_cons_succ])
 go_cut [11] (fun v11 wc => ∃ (kq : Nat) (x11_6 : Int), v11 = .int .i64 x11_6 ∧ Aside0 (tacticianlaw02_RowsTogether.j0 kq a3 t592 t595 x11_6 = some r) ∧ Aside0 (kq ≤ k) ∧ Aside0 (Kd.N (Kd.slice 61 k61) 40 wc w.heap.size (fun k_ => some k_ ≠ (v596 : Value).ownBlock) (.slice Ao10 t592.length co10) t592) ∧ Aside0 (Kd.N (Kd.slice 61 k61) 40 wc w.heap.size (fun k_ => some k_ ≠ ((.slice Ao10 t592.length co10) : Value).ownBlock) v596 t595) ∧ Aside0 (Below w.heap.size w wc))
 case first => as_aux_lemma =>
  have H := HC7.out
  clear HC7
  by_cases c11 : (t592.length : Int) > 0
  ·rw [if_pos c11] at H
   have c11b0 : decide (0 < (t592.length : Int)) = true := decide_eq_true c11
   have c11b1 : decide (0 < t592.length) = true := decide_eq_true (by omega)
   clear c11
   (first | rw [c11b0] | (simp only [i64_w, i32_w]; rw [c11b0]) | skip)
   by_cases c12 : (t592.length : Int) = 0
   ·rw [if_pos c12] at H
    exact absurd H (by simp)
   ·rw [if_neg c12] at H
    have c12b0 : ((t592.length : Int) == 0) = false := beq_eq_false_iff_ne.mpr c12
    have c12b1 : ((t592.length : Int) != 0) = true := bne_iff_ne.mpr c12
    have c12b2 : ¬ (t592 = []) := fun h_ => c12 (by rw [h_]; rfl)
    have H' := Aside0.mk H
    clear H
    go_wp2
    go_meet
    case rel => exact ⟨_, (Int.tmod (wrap64 (a2)) (t592.length : Int)), (by first | rfl | (simp; done) | (simp [*]; done)), H', ⟨by first | omega | exact Nat.le_refl _⟩, ⟨by (with_reducible repeat (first | apply Kd.N_alloc | apply Kd.N_drewN | apply Kd.N_drew)); exact Kd.N_mono HO594.out (fun _ hk => hk.2)⟩, ⟨by (with_reducible repeat (first | apply Kd.N_alloc | apply Kd.N_drewN | apply Kd.N_drew)); exact HO597.out⟩, ⟨by repeat (first | (with_reducible first | exact HB.out | apply yA | apply yN | apply yD) | exact HB.out)⟩⟩
  ·rw [if_neg c11] at H
   have c11b0 : decide (0 < (t592.length : Int)) = false := decide_eq_false c11
   have c11b1 : decide (0 < t592.length) = false := decide_eq_false (by omega)
   have c11b1z : (0 < t592.length) = False := eq_false (by omega)
   clear c11
   (first | rw [c11b0] | (simp only [i64_w, i32_w]; rw [c11b0]) | skip)
   have H' := Aside0.mk H
   clear H
   go_wp2
   any_goals (try exact absurd (by assumption : 0 < t592.length) (of_eq_false c11b1z))
   go_meet
   case rel => exact ⟨_, (0), (by first | rfl | (simp; done) | (simp [*]; done)), H', ⟨by first | omega | exact Nat.le_refl _⟩, ⟨by (with_reducible repeat (first | apply Kd.N_alloc | apply Kd.N_drewN | apply Kd.N_drew)); exact Kd.N_mono HO594.out (fun _ hk => hk.2)⟩, ⟨by (with_reducible repeat (first | apply Kd.N_alloc | apply Kd.N_drewN | apply Kd.N_drew)); exact HO597.out⟩, ⟨by repeat (first | (with_reducible first | exact HB.out | apply yA | apply yN | apply yD) | exact HB.out)⟩⟩
 case rest => as_aux_lemma =>
  clear HC7
  try clear c1
  try clear p2
  try clear c3
  try clear p6
  try clear c10
  try clear c11
  try clear c11b0
  try clear c11b1
  try clear c12
  try clear c12b0
  try clear c12b1
  try clear c12b2
  obtain ⟨kq, x11_6, rfl, HA, HJ6, HO_9, HO_10, HB⟩ := hcut
  cases kq with
  | zero => exact absurd HA.out (by simp [tacticianlaw02_RowsTogether.j0])
  | succ kj6 =>
   have H := HA.out
   clear HA
   simp only [tacticianlaw02_RowsTogether.j0] at H
   obtain ⟨y598, hy598⟩ : ∃ y_ : List (List (S61)), y_ = (([] : List (List (S61)))) := ⟨_, rfl⟩
   replace H : (if 0 ≤ x11_6 then (if x11_6 ≤ (t592.length : Int) then ((some (t592.drop (x11_6 : Int).toNat : List (List (S61)))).bind fun y601 => (if y598.length + y601.length < 5864062014805 then ((some (y598 ++ y601 : List (List (S61)))).bind fun y606 => ((some (t592.take (x11_6 : Int).toNat : List (List (S61)))).bind fun y609 => (if y606.length + y609.length < 5864062014805 then ((rows_Canonical.f t592).bind fun bt617 => ((rows_Canonical.f (y606 ++ y609)).bind fun bt621 => ((rows_Same.f t592 t595).bind fun bt625 => (if bt617.2 = 0 then (if bt621.2 = 0 then (if bt625.2 = 0 then ((tacticianref02_Equal.f kj6 bt617.1 bt621.1).bind fun t627 => (if t627 = true then (tacticianlaw02_RowsTogether.j1 kj6 a3 t592 t595 bt617.1 bt625.1 ((bt617.1.length : Int) != (t592.length : Int))) else (tacticianlaw02_RowsTogether.j1 kj6 a3 t592 t595 bt617.1 bt625.1 true))) else (tacticianlaw02_RowsTogether.j1 kj6 a3 t592 t595 bt617.1 bt625.1 true)) else (tacticianlaw02_RowsTogether.j1 kj6 a3 t592 t595 bt617.1 bt625.1 true)) else (tacticianlaw02_RowsTogether.j1 kj6 a3 t592 t595 bt617.1 bt625.1 true))))) else (none)))) else (none))) else (none)) else (none)) = some r := by first | (rw [hy598]; with_reducible exact H) | (have H2_ := (Option.bind_some _ _).symm.trans H; rw [hy598]; with_reducible exact H2_) | (have H2_ := (Option.bind_some _ _).symm.trans H; with_reducible exact H2_) | with_reducible exact H | (rw [hy598]; exact H) | exact H
   have Ny598 := Aside0.mk hy598
   clear hy598
   by_cases c13 : 0 ≤ x11_6
   ·rw [if_pos c13] at H
    have c13b0 := eq_true c13
    have c13b1 : decide (0 ≤ x11_6) = true := decide_eq_true c13
    clear c13
    by_cases c14 : x11_6 ≤ (t592.length : Int)
    ·rw [if_pos c14] at H
     have c14b0 := eq_true c14
     have c14b1 : decide (x11_6 ≤ (t592.length : Int)) = true := decide_eq_true c14
     clear c14
     obtain ⟨y601, hy601⟩ : ∃ y_ : List (List (S61)), y_ = (t592.drop (x11_6 : Int).toNat) := ⟨_, rfl⟩
     replace H : (if y598.length + y601.length < 5864062014805 then ((some (y598 ++ y601 : List (List (S61)))).bind fun y606 => ((some (t592.take (x11_6 : Int).toNat : List (List (S61)))).bind fun y609 => (if y606.length + y609.length < 5864062014805 then ((rows_Canonical.f t592).bind fun bt617 => ((rows_Canonical.f (y606 ++ y609)).bind fun bt621 => ((rows_Same.f t592 t595).bind fun bt625 => (if bt617.2 = 0 then (if bt621.2 = 0 then (if bt625.2 = 0 then ((tacticianref02_Equal.f kj6 bt617.1 bt621.1).bind fun t627 => (if t627 = true then (tacticianlaw02_RowsTogether.j1 kj6 a3 t592 t595 bt617.1 bt625.1 ((bt617.1.length : Int) != (t592.length : Int))) else (tacticianlaw02_RowsTogether.j1 kj6 a3 t592 t595 bt617.1 bt625.1 true))) else (tacticianlaw02_RowsTogether.j1 kj6 a3 t592 t595 bt617.1 bt625.1 true)) else (tacticianlaw02_RowsTogether.j1 kj6 a3 t592 t595 bt617.1 bt625.1 true)) else (tacticianlaw02_RowsTogether.j1 kj6 a3 t592 t595 bt617.1 bt625.1 true))))) else (none)))) else (none)) = some r := by first | (rw [hy601]; with_reducible exact H) | (have H2_ := (Option.bind_some _ _).symm.trans H; rw [hy601]; with_reducible exact H2_) | (have H2_ := (Option.bind_some _ _).symm.trans H; with_reducible exact H2_) | with_reducible exact H | (rw [hy601]; exact H) | exact H
     have Ny601 := Aside0.mk hy601
     clear hy601
     by_cases c15 : y598.length + y601.length < 5864062014805
     ·rw [if_pos c15] at H
      have LMc15 := Aside0.mk c15
      clear c15
      obtain ⟨y606, hy606⟩ : ∃ y_ : List (List (S61)), y_ = (y598 ++ y601) := ⟨_, rfl⟩
      replace H : ((some (t592.take (x11_6 : Int).toNat : List (List (S61)))).bind fun y609 => (if y606.length + y609.length < 5864062014805 then ((rows_Canonical.f t592).bind fun bt617 => ((rows_Canonical.f (y606 ++ y609)).bind fun bt621 => ((rows_Same.f t592 t595).bind fun bt625 => (if bt617.2 = 0 then (if bt621.2 = 0 then (if bt625.2 = 0 then ((tacticianref02_Equal.f kj6 bt617.1 bt621.1).bind fun t627 => (if t627 = true then (tacticianlaw02_RowsTogether.j1 kj6 a3 t592 t595 bt617.1 bt625.1 ((bt617.1.length : Int) != (t592.length : Int))) else (tacticianlaw02_RowsTogether.j1 kj6 a3 t592 t595 bt617.1 bt625.1 true))) else (tacticianlaw02_RowsTogether.j1 kj6 a3 t592 t595 bt617.1 bt625.1 true)) else (tacticianlaw02_RowsTogether.j1 kj6 a3 t592 t595 bt617.1 bt625.1 true)) else (tacticianlaw02_RowsTogether.j1 kj6 a3 t592 t595 bt617.1 bt625.1 true))))) else (none))) = some r := by first | (rw [hy606]; with_reducible exact H) | (have H2_ := (Option.bind_some _ _).symm.trans H; rw [hy606]; with_reducible exact H2_) | (have H2_ := (Option.bind_some _ _).symm.trans H; with_reducible exact H2_) | with_reducible exact H | (rw [hy606]; exact H) | exact H
      have Ny606 := Aside0.mk hy606
      clear hy606
      have c16b0 := eq_true (of_decide_eq_true (by first | (with_reducible assumption) | assumption) : 0 ≤ x11_6)
      have c17b0 := eq_true (of_decide_eq_true (by first | (with_reducible assumption) | assumption) : x11_6 ≤ (t592.length : Int))
      obtain ⟨y609, hy609⟩ : ∃ y_ : List (List (S61)), y_ = (t592.take (x11_6 : Int).toNat) := ⟨_, rfl⟩
      replace H : (if y606.length + y609.length < 5864062014805 then ((rows_Canonical.f t592).bind fun bt617 => ((rows_Canonical.f (y606 ++ y609)).bind fun bt621 => ((rows_Same.f t592 t595).bind fun bt625 => (if bt617.2 = 0 then (if bt621.2 = 0 then (if bt625.2 = 0 then ((tacticianref02_Equal.f kj6 bt617.1 bt621.1).bind fun t627 => (if t627 = true then (tacticianlaw02_RowsTogether.j1 kj6 a3 t592 t595 bt617.1 bt625.1 ((bt617.1.length : Int) != (t592.length : Int))) else (tacticianlaw02_RowsTogether.j1 kj6 a3 t592 t595 bt617.1 bt625.1 true))) else (tacticianlaw02_RowsTogether.j1 kj6 a3 t592 t595 bt617.1 bt625.1 true)) else (tacticianlaw02_RowsTogether.j1 kj6 a3 t592 t595 bt617.1 bt625.1 true)) else (tacticianlaw02_RowsTogether.j1 kj6 a3 t592 t595 bt617.1 bt625.1 true))))) else (none)) = some r := by first | (rw [hy609]; with_reducible exact H) | (have H2_ := (Option.bind_some _ _).symm.trans H; rw [hy609]; with_reducible exact H2_) | (have H2_ := (Option.bind_some _ _).symm.trans H; with_reducible exact H2_) | with_reducible exact H | (rw [hy609]; exact H) | exact H
      have Ny609 := Aside0.mk hy609
      clear hy609
      by_cases c18 : y606.length + y609.length < 5864062014805
      ·rw [if_pos c18] at H
       have LMc18 := Aside0.mk c18
       clear c18
       obtain ⟨y614, hy614⟩ : ∃ y_ : List (List (S61)), y_ = (y606 ++ y609) := ⟨_, rfl⟩
       replace H : ((rows_Canonical.f t592).bind fun bt617 => ((rows_Canonical.f y614).bind fun bt621 => ((rows_Same.f t592 t595).bind fun bt625 => (if bt617.2 = 0 then (if bt621.2 = 0 then (if bt625.2 = 0 then ((tacticianref02_Equal.f kj6 bt617.1 bt621.1).bind fun t627 => (if t627 = true then (tacticianlaw02_RowsTogether.j1 kj6 a3 t592 t595 bt617.1 bt625.1 ((bt617.1.length : Int) != (t592.length : Int))) else (tacticianlaw02_RowsTogether.j1 kj6 a3 t592 t595 bt617.1 bt625.1 true))) else (tacticianlaw02_RowsTogether.j1 kj6 a3 t592 t595 bt617.1 bt625.1 true)) else (tacticianlaw02_RowsTogether.j1 kj6 a3 t592 t595 bt617.1 bt625.1 true)) else (tacticianlaw02_RowsTogether.j1 kj6 a3 t592 t595 bt617.1 bt625.1 true))))) = some r := by first | (rw [hy614]; with_reducible exact H) | (have H2_ := (Option.bind_some _ _).symm.trans H; rw [hy614]; with_reducible exact H2_) | (have H2_ := (Option.bind_some _ _).symm.trans H; with_reducible exact H2_) | with_reducible exact H | (rw [hy614]; exact H) | exact H
       have Ny614 := Aside0.mk hy614
       clear hy614
       replace H := Option.bind_eq_some_iff.mp H
       obtain ⟨⟨t617, t618⟩, A190, H⟩ := H
       replace H : ((rows_Canonical.f y614).bind fun bt621 => ((rows_Same.f t592 t595).bind fun bt625 => (if t618 = 0 then (if bt621.2 = 0 then (if bt625.2 = 0 then ((tacticianref02_Equal.f kj6 t617 bt621.1).bind fun t627 => (if t627 = true then (tacticianlaw02_RowsTogether.j1 kj6 a3 t592 t595 t617 bt625.1 ((t617.length : Int) != (t592.length : Int))) else (tacticianlaw02_RowsTogether.j1 kj6 a3 t592 t595 t617 bt625.1 true))) else (tacticianlaw02_RowsTogether.j1 kj6 a3 t592 t595 t617 bt625.1 true)) else (tacticianlaw02_RowsTogether.j1 kj6 a3 t592 t595 t617 bt625.1 true)) else (tacticianlaw02_RowsTogether.j1 kj6 a3 t592 t595 t617 bt625.1 true)))) = some r := H
       have A19 := Aside0.mk A190
       clear A190
       replace H := Option.bind_eq_some_iff.mp H
       obtain ⟨⟨t621, t622⟩, A200, H⟩ := H
       replace H : ((rows_Same.f t592 t595).bind fun bt625 => (if t618 = 0 then (if t622 = 0 then (if bt625.2 = 0 then ((tacticianref02_Equal.f kj6 t617 t621).bind fun t627 => (if t627 = true then (tacticianlaw02_RowsTogether.j1 kj6 a3 t592 t595 t617 bt625.1 ((t617.length : Int) != (t592.length : Int))) else (tacticianlaw02_RowsTogether.j1 kj6 a3 t592 t595 t617 bt625.1 true))) else (tacticianlaw02_RowsTogether.j1 kj6 a3 t592 t595 t617 bt625.1 true)) else (tacticianlaw02_RowsTogether.j1 kj6 a3 t592 t595 t617 bt625.1 true)) else (tacticianlaw02_RowsTogether.j1 kj6 a3 t592 t595 t617 bt625.1 true))) = some r := H
       have A20 := Aside0.mk A200
       clear A200
       replace H := Option.bind_eq_some_iff.mp H
       obtain ⟨⟨t625, t626⟩, A210, H⟩ := H
       replace H : (if t618 = 0 then (if t622 = 0 then (if t626 = 0 then ((tacticianref02_Equal.f kj6 t617 t621).bind fun t627 => (if t627 = true then (tacticianlaw02_RowsTogether.j1 kj6 a3 t592 t595 t617 t625 ((t617.length : Int) != (t592.length : Int))) else (tacticianlaw02_RowsTogether.j1 kj6 a3 t592 t595 t617 t625 true))) else (tacticianlaw02_RowsTogether.j1 kj6 a3 t592 t595 t617 t625 true)) else (tacticianlaw02_RowsTogether.j1 kj6 a3 t592 t595 t617 t625 true)) else (tacticianlaw02_RowsTogether.j1 kj6 a3 t592 t595 t617 t625 true)) = some r := H
       have A21 := Aside0.mk A210
       clear A210
       have HC22 := Aside0.mk H
       clear H
       try go_wp2
       have n0_ := Aside0.mk (Kd.N_drew HO_9.out)
       have n1_ := Aside0.mk (Kd.N_drew HO_10.out)
       have n2_ := Aside0.mk (below_drew1 HB.out)
       clear HO_9
       clear HO_10
       clear HB
       have HO_9 := n0_
       have HO_10 := n1_
       have HB := n2_
       clear n0_ n1_ n2_
       have q24 : (x11_6 : Int) ≤ ((t592.length : Int) : Int) := of_decide_eq_true (by first | (with_reducible assumption) | assumption)
       obtain ⟨i024, hi024, _, hsz24, _⟩ := info_parts info40
       have hroom24 : t592.length ≤ co10 := (Kd.N_reads' HO_9.out).2.1
       have hC24 : Kd.F (Kd.slice 61 k61) _ _ Ao10 t592.length t592 := (Kd.V_at (base := w.heap.size) (Kd.N_V HO_9.out)).2.2
       have q024 : (0 : Int) ≤ (x11_6 : Int) := of_decide_eq_true (by first | (with_reducible assumption) | assumption)
       have hcut24 := cut_from (P := Tryz.prog) 22 40 .i64 Tryz.underlying22 hi024 1 hsz24 Ao10 t592.length co10 x11_6 q024 q24
       have hr24 := Kd.F_cut (m := (x11_6 : Int).toNat) (c := co10) hC24 (by omega) hroom24
       obtain ⟨A24, hA24⟩ : ∃ A1, A1 = (if co10 = (x11_6 : Int).toNat then Ao10 else (Ao10 : Option Addr).map (·.add ((x11_6 : Int).toNat * 1))) := ⟨_, rfl⟩
       obtain ⟨c24, hc24⟩ : ∃ c1, c1 = co10 - (x11_6 : Int).toNat := ⟨_, rfl⟩
       have hy24 : y601.length = t592.length - (x11_6 : Int).toNat := (by rw [Ny601.out, List.length_drop] <;> omega)
       rw [show (t592).drop (x11_6 : Int).toNat = y601 from Ny601.out.symm] at hr24
       replace hr24 : Kd.F (Kd.slice 61 k61) _ _ A24 y601.length y601 := (by rw [hA24]; exact hr24)
       rw [← hy24, ← hA24, ← hc24] at hcut24
       have HO605 := Aside0.mk (show Kd.V (Kd.slice 61 k61) 40 _ w.heap.size _ (.slice A24 y601.length c24) y601 from Kd.V_mk (by rw [hy24, hc24]; exact Nat.sub_le_sub_right hroom24 _) hr24)
       have HC605 := Aside0.mk (show y601.length ≤ c24 from by rw [hy24, hc24]; exact Nat.sub_le_sub_right hroom24 _)
       clear hr24 hC24 hroom24 hi024 hsz24 hc24
       have KY24 := Aside0.mk hy24
       have KA24 := Aside0.mk hA24
       clear hy24 hA24
       replace q24 := eq_true q24
       have q25 : (x11_6 : Int) ≤ ((t592.length : Int) : Int) := of_decide_eq_true (by first | (with_reducible assumption) | assumption)
       obtain ⟨i025, hi025, _, hsz25, _⟩ := info_parts info40
       have hroom25 : t592.length ≤ co10 := (Kd.N_reads' HO_9.out).2.1
       have hC25 : Kd.F (Kd.slice 61 k61) _ _ Ao10 t592.length t592 := (Kd.V_at (base := w.heap.size) (Kd.N_V HO_9.out)).2.2
       have hcut25 := cut_to (P := Tryz.prog) 22 40 .i64 Tryz.underlying22 hi025 Ao10 t592.length co10 x11_6 (of_decide_eq_true (by first | (with_reducible assumption) | assumption)) q25 hroom25
       have hr25 := Kd.F_take (m := (x11_6 : Int).toNat) hC25 (by omega)
       have hy25 : y609.length = (x11_6 : Int).toNat := (by rw [Ny609.out, List.length_take]; omega)
       rw [← Ny609.out] at hr25
       rw [← hy25] at hcut25
       have HO613 := Aside0.mk (show Kd.V (Kd.slice 61 k61) 40 _ w.heap.size _ (.slice Ao10 y609.length co10) y609 from Kd.V_mk (by omega) hr25)
       have HC613 := Aside0.mk (show y609.length ≤ co10 from by omega)
       clear hr25 hC25 hroom25 hi025 hsz25
       have KY25 := Aside0.mk hy25
       clear hy25
       replace q25 := eq_true q25
       refine start_ (n := 10) (S := fun w' => True) (ds := []) #[false, false, false, false, false, false, false, false, false, false] (by kernel_rfl) rfl rfl trivial (fun hHeld => ?_); refine with_tabW tacticianlaw02_RowsTogether.tab5 tacticianlaw02_RowsTogether.bits5 (fun HT_ HW_ => ?_)
       generalize wc.drew = w23 at HO_9 HO_10 HB HO605 HO613 hHeld ⊢
       refine pure_ (i := 1) (N := some 47) (v := ?_) (a' := ?_) #[false, true, false, false, false, false, false, false, false, false] rfl rfl (any_of HT_.out (by kernel_rfl)) (fun _ _ _ h => h) (Or.inl ⟨by rfl, ?_⟩) ?_ ?_
       rotate_left
       ·intro w'
        go_simp
        with_reducible rfl
       rotate_left
       ·simp only [Act.put, List.setIfInBounds_toArray, List.set_cons_zero, List.set_cons_succ, i64_w, i32_w]
        rfl
       refine pure_ (i := 2) (N := some 48) (v := ?_) (a' := ?_) #[false, true, true, false, false, false, false, false, false, false] rfl rfl (any_of HT_.out (by kernel_rfl)) (fun _ _ _ h => h) (Or.inl ⟨by rfl, ?_⟩) ?_ ?_
       rotate_left
       ·intro w'
        go_simp
        with_reducible rfl
       rotate_left
       ·simp only [Act.put, List.setIfInBounds_toArray, List.set_cons_zero, List.set_cons_succ, i64_w, i32_w]
        rfl
       refine pure_ (i := 3) (N := some 49) (v := ?_) (a' := ?_) #[false, true, true, true, false, false, false, false, false, false] rfl rfl (any_of HT_.out (by kernel_rfl)) (fun _ _ _ h => h) (Or.inl ⟨by rfl, ?_⟩) ?_ ?_
       rotate_left
       ·intro w'
        go_simp
        with_reducible rfl
       rotate_left
       ·simp only [Act.put, List.setIfInBounds_toArray, List.set_cons_zero, List.set_cons_succ, i64_w, i32_w]
        rfl
       refine pure_ (i := 5) (N := some 51) (v := ?_) (a' := ?_) #[false, true, true, true, false, true, false, false, false, false] rfl rfl (any_of HT_.out (by kernel_rfl)) (fun _ _ _ h => h) (Or.inl ⟨by rfl, ?_⟩) ?_ ?_
       rotate_left
       ·intro w'
        go_simp
        with_reducible rfl
       rotate_left
       ·simp only [Act.put, List.setIfInBounds_toArray, List.set_cons_zero, List.set_cons_succ, i64_w, i32_w]
        rfl
       refine pure_ (i := 6) (N := some 52) (v := ?_) (a' := ?_) #[false, true, true, true, false, true, true, false, false, false] rfl rfl (any_of HT_.out (by kernel_rfl)) (fun _ _ _ h => h) (Or.inl ⟨by rfl, ?_⟩) ?_ ?_
       rotate_left
       ·intro w'
        go_simp
        with_reducible rfl
       rotate_left
       ·simp only [Act.put, List.setIfInBounds_toArray, List.set_cons_zero, List.set_cons_succ, i64_w, i32_w]
        rfl
       refine pure_ (i := 7) (N := some 53) (v := ?_) (a' := ?_) #[false, true, true, true, false, true, true, true, false, false] rfl rfl (any_of HT_.out (by kernel_rfl)) (fun _ _ _ h => h) (Or.inl ⟨by rfl, ?_⟩) ?_ ?_
       rotate_left
       ·intro w'
        go_simp
        with_reducible rfl
       rotate_left
       ·simp only [Act.put, List.setIfInBounds_toArray, List.set_cons_zero, List.set_cons_succ, i64_w, i32_w]
        rfl
       refine one_ (i := 0) (N := some 46) #[true, true, true, true, false, true, true, true, false, false] rfl rfl (one_of HT_.out (by kernel_rfl)) (by decide) (fun K hK => ?_)
       refine Kd.N_lit_step (Kd.slice 61 k61) _ 40 ?hg (N' := 46) ?hd (xs := ([] : List (List (S61)))) (inner := []) (ok := (fun k_ => some k_ ≠ (.slice Ao10 t592.length co10 : Value).ownBlock ∧ some k_ ≠ (v596 : Value).ownBlock)) (okp := (fun k_ => some k_ ≠ (.slice Ao10 t592.length co10 : Value).ownBlock ∧ some k_ ≠ (v596 : Value).ownBlock)) ?hr ?hp (fun _ hk => hk) ((show ∀ k_, w23.heap.size ≤ k_ → (fun k_ => some k_ ≠ (.slice Ao10 t592.length co10 : Value).ownBlock ∧ some k_ ≠ (v596 : Value).ownBlock) k_ from fun k_ hk => ⟨Kd.fresh' (Kd.N_lt (by (with_reducible repeat (first | apply Kd.N_alloc | apply Kd.N_drewN | apply Kd.N_drew)); exact HO_9.out)) k_ hk, Kd.fresh' (Kd.N_lt (by (with_reducible repeat (first | apply Kd.N_alloc | apply Kd.N_drewN | apply Kd.N_drew)); exact HO_10.out)) k_ hk⟩) _ (Nat.le_refl _)) (Below.refl _ _) (Nat.le_refl _) (by simp) ?_; (case hd => rfl); (case hg => rfl); (case hr => first | (go_simp; done) | (go_simp; rfl)); (case hp => exact (Reps.none _ _))
       intro v599 w26 ho27 hb hg_ hnew_
       clear hg_ hnew_
       (first | rw [← Ny598.out] at ho27 | (simp only [Int.reduceToNat] at ho27; rw [← Ny598.out] at ho27))
       have n0_ := Aside0.mk (Kd.N_elder' (by (with_reducible repeat (first | apply Kd.N_alloc | apply Kd.N_drewN | apply Kd.N_drew)); exact HO_9.out) (Kd.N_base ho27) hb)
       have n1_ := Aside0.mk (Kd.N_elder' (by (with_reducible repeat (first | apply Kd.N_alloc | apply Kd.N_drewN | apply Kd.N_drew)); exact HO_10.out) (Kd.N_base ho27) hb)
       have n2_ := Aside0.mk (Kd.V_elder' (by (with_reducible repeat (first | apply Kd.V_alloc | apply Kd.V_drewN | apply Kd.V_drew)); exact HO605.out) (Kd.N_base ho27) hb)
       have n3_ := Aside0.mk (Kd.V_elder' (by (with_reducible repeat (first | apply Kd.V_alloc | apply Kd.V_drewN | apply Kd.V_drew)); exact HO613.out) (Kd.N_base ho27) hb)
       have n4_ := Aside0.mk (Kd.N_lower ho27 (below_size (by repeat (first | (with_reducible first | exact HB.out | apply yA | apply yN | apply yD) | exact HB.out))))
       have n5_ := Aside0.mk (below_step (by repeat (first | (with_reducible first | exact HB.out | apply yA | apply yN | apply yD) | exact HB.out)) hb)
       clear HO_9
       clear HO_10
       clear HO605
       clear HO613
       clear HB
       have HO_9 := n0_
       have HO_10 := n1_
       have HO605 := n2_
       have HO613 := n3_
       have HO600 := n4_
       have HB := n5_
       clear n0_ n1_ n2_ n3_ n4_ n5_
       clear hb ho27
       refine hK.out _ _ trivial (fun hHeld => ?_)
       clear hK K
       refine norm_ (a' := ?_) ?_ ?_
       rotate_left
       ·show Act.put _ (some 46) _ = _
        simp only [Act.put, List.setIfInBounds_toArray, List.set_cons_zero, List.set_cons_succ, i64_w, i32_w]
        rfl
       refine one_ (i := 4) (N := some 50) #[true, true, true, true, true, true, true, true, false, false] rfl rfl (one_of HT_.out (by kernel_rfl)) (by decide) (fun K hK => ?_)
       refine Kd.N_append_rows_step (Kd.slice 61 k61) (w0 := w) w.heap.size (by rfl) (.tmp 46) (.tmp 49) 22 40 (.slice none 0 0) 24 rfl Tryz.underlying22 info40 rfl (by decide) (by omega) v599 y598 y601 _ _ _ (fun k_ => some k_ ≠ (v596 : Value).ownBlock) (fun k_ => ((fun k_ => some k_ ≠ (v596 : Value).ownBlock)) k_ ∧ some k_ ≠ (v599 : Value).ownBlock) rfl rfl ?aO ?aR (fun _ hk => hk) ?aF ?aB ?aS ?aL ?_
       (case aR => exact (by skip; exact Kd.V_F (Kd.V_mono (ok' := (fun k_ => ((fun k_ => some k_ ≠ (v596 : Value).ownBlock)) k_ ∧ some k_ ≠ (v599 : Value).ownBlock)) (HO605.out) (fun k_ hk => ⟨hk.1, hk.2⟩))))
       (case aB => exact (by repeat (first | (with_reducible first | exact HB.out | apply yA | apply yN | apply yD) | exact HB.out)))
       (case aF => exact (fun k_ hk => Kd.fresh' (Kd.N_lt (by (with_reducible repeat (first | apply Kd.N_alloc | apply Kd.N_drewN | apply Kd.N_drew)); exact HO_10.out)) k_ hk))
       (case aO => exact (by (with_reducible repeat (first | apply Kd.N_alloc | apply Kd.N_drewN | apply Kd.N_drew)); exact Kd.N_mono HO600.out (fun _ hk => hk.2)))
       (case aS => exact (below_size (by repeat (first | (with_reducible first | exact HB.out | apply yA | apply yN | apply yD) | exact HB.out))))
       (case aL => have := LMc15.out; omega)
       intro v607 w28 ho hb hg hat
       rw [← Ny606.out] at ho
       have n0_ := Aside0.mk (Kd.N_afterv (ok := (fun k_ => some k_ ≠ (v596 : Value).ownBlock)) (by (with_reducible repeat (first | apply Kd.N_alloc | apply Kd.N_drewN | apply Kd.N_drew)); exact HO_9.out) hg hat)
       have n1_ := Aside0.mk (Kd.N_afterv (ok := (fun k_ => some k_ ≠ (.slice Ao10 t592.length co10 : Value).ownBlock)) (by (with_reducible repeat (first | apply Kd.N_alloc | apply Kd.N_drewN | apply Kd.N_drew)); exact HO_10.out) hg hat)
       have n2_ := Aside0.mk (Kd.V_afterv (ok := (fun k_ => some k_ ≠ (v596 : Value).ownBlock)) (by (with_reducible repeat (first | apply Kd.V_alloc | apply Kd.V_drewN | apply Kd.V_drew)); exact HO605.out) hg hat)
       have n3_ := Aside0.mk (Kd.V_afterv (ok := (fun k_ => some k_ ≠ (v596 : Value).ownBlock)) (by (with_reducible repeat (first | apply Kd.V_alloc | apply Kd.V_drewN | apply Kd.V_drew)); exact HO613.out) hg hat)
       have n4_ := Aside0.mk (hb)
       have n5_ := Aside0.mk (ho)
       clear HO_9
       clear HO_10
       clear HO605
       clear HO613
       clear HB
       clear HO600
       have HO_9 := n0_
       have HO_10 := n1_
       have HO605 := n2_
       have HO613 := n3_
       have HB := n4_
       have HO608 := n5_
       clear n0_ n1_ n2_ n3_ n4_ n5_
       clear ho hb hg hat
       refine hK.out _ _ trivial (fun hHeld => ?_)
       clear hK K
       refine norm_ (a' := ?_) ?_ ?_
       rotate_left
       ·show Act.put _ (some 50) _ = _
        simp only [Act.put, List.setIfInBounds_toArray, List.set_cons_zero, List.set_cons_succ, i64_w, i32_w]
        rfl
       refine one_ (i := 8) (N := some 54) #[true, true, true, true, true, true, true, true, true, false] rfl rfl (one_of HT_.out (by kernel_rfl)) (by decide) (fun K hK => ?_)
       refine Kd.N_append_rows_step (Kd.slice 61 k61) (w0 := w) w.heap.size (by rfl) (.tmp 50) (.tmp 53) 22 40 (.slice none 0 0) 24 rfl Tryz.underlying22 info40 rfl (by decide) (by omega) v607 y606 y609 _ _ _ (fun k_ => some k_ ≠ (v596 : Value).ownBlock) (fun k_ => ((fun k_ => some k_ ≠ (v596 : Value).ownBlock)) k_ ∧ some k_ ≠ (v607 : Value).ownBlock) rfl rfl ?aO ?aR (fun _ hk => hk) ?aF ?aB ?aS ?aL ?_
       (case aR => exact (by skip; exact Kd.V_F (Kd.V_mono (ok' := (fun k_ => ((fun k_ => some k_ ≠ (v596 : Value).ownBlock)) k_ ∧ some k_ ≠ (v607 : Value).ownBlock)) (HO613.out) (fun k_ hk => ⟨hk.1, hk.2⟩))))
       (case aB => exact (by repeat (first | (with_reducible first | exact HB.out | apply yA | apply yN | apply yD) | exact HB.out)))
       (case aF => exact (fun k_ hk => Kd.fresh' (Kd.N_lt (by (with_reducible repeat (first | apply Kd.N_alloc | apply Kd.N_drewN | apply Kd.N_drew)); exact HO_10.out)) k_ hk))
       (case aO => exact (by (with_reducible repeat (first | apply Kd.N_alloc | apply Kd.N_drewN | apply Kd.N_drew)); exact HO608.out))
       (case aS => exact (below_size (by repeat (first | (with_reducible first | exact HB.out | apply yA | apply yN | apply yD) | exact HB.out))))
       (case aL => have := LMc18.out; omega)
       intro v615 w29 ho hb hg hat
       rw [← Ny614.out] at ho
       have n0_ := Aside0.mk (Kd.N_afterv (ok := (fun k_ => some k_ ≠ (v596 : Value).ownBlock)) (by (with_reducible repeat (first | apply Kd.N_alloc | apply Kd.N_drewN | apply Kd.N_drew)); exact HO_9.out) hg hat)
       have n1_ := Aside0.mk (Kd.N_afterv (ok := (fun k_ => some k_ ≠ (.slice Ao10 t592.length co10 : Value).ownBlock)) (by (with_reducible repeat (first | apply Kd.N_alloc | apply Kd.N_drewN | apply Kd.N_drew)); exact HO_10.out) hg hat)
       have n2_ := Aside0.mk (Kd.V_afterv (ok := (fun k_ => some k_ ≠ (v596 : Value).ownBlock)) (by (with_reducible repeat (first | apply Kd.V_alloc | apply Kd.V_drewN | apply Kd.V_drew)); exact HO605.out) hg hat)
       have n3_ := Aside0.mk (Kd.V_afterv (ok := (fun k_ => some k_ ≠ (v596 : Value).ownBlock)) (by (with_reducible repeat (first | apply Kd.V_alloc | apply Kd.V_drewN | apply Kd.V_drew)); exact HO613.out) hg hat)
       have n4_ := Aside0.mk (hb)
       have n5_ := Aside0.mk (ho)
       clear HO_9
       clear HO_10
       clear HO605
       clear HO613
       clear HB
       clear HO608
       have HO_9 := n0_
       have HO_10 := n1_
       have HO605 := n2_
       have HO613 := n3_
       have HB := n4_
       have HO616 := n5_
       clear n0_ n1_ n2_ n3_ n4_ n5_
       clear ho hb hg hat
       refine hK.out _ _ trivial (fun hHeld => ?_)
       clear hK K
       refine norm_ (a' := ?_) ?_ ?_
       rotate_left
       ·show Act.put _ (some 54) _ = _
        simp only [Act.put, List.setIfInBounds_toArray, List.set_cons_zero, List.set_cons_succ, i64_w, i32_w]
        rfl
       refine pure_ (i := 9) (N := some 12) (v := ?_) (a' := ?_) #[true, true, true, true, true, true, true, true, true, true] rfl rfl (any_of HT_.out (by kernel_rfl)) (fun _ _ _ h => h) (Or.inl ⟨by rfl, ?_⟩) ?_ ?_
       rotate_left
       ·intro w'
        go_simp
        with_reducible rfl
       rotate_left
       ·simp only [Act.put, List.setIfInBounds_toArray, List.set_cons_zero, List.set_cons_succ, i64_w, i32_w]
        rfl
       refine done_ (done_of HT_.out (by kernel_rfl)) ?_
       go_upto_region 9 with (first | ((with_reducible refine gate_callee (f := 28) rfl ?_); refine goesL_ (some 57) rfl rfl Tryz.func28 (by kernel_rfl) rfl #[.slice Ao10 t592.length co10] rfl (by (try simp only [List.map_toArray, List.map_cons, List.map_nil]); first | done | rfl | (simp only [List.length_drop, List.length_take]; rfl)) ?_; (with_reducible refine (rows_Canonical.calls _ _ t592 t617 t618 _ ?side1 ?side2 A19.out).mono ?_); (case side1 => repeat (first | exact (Kd.N_reads' HO_9.out).2.2 | (with_reducible refine Kd.C_alloc ?_ _) | (with_reducible refine Kd.C_drewN ?_ _) | (with_reducible refine Kd.C_drew ?_))); (case side2 => exact (Kd.N_reads' HO_9.out).2.1); rintro e w30 ⟨v619, rfl, ho0, hb⟩; refine ⟨_, rfl, ?_⟩; have n0_ := Aside0.mk (Kd.N_elder' (by (with_reducible repeat (first | apply Kd.N_alloc | apply Kd.N_drewN | apply Kd.N_drew)); exact HO_9.out) (Kd.N_base (Kd.S_N ho0)) hb); have n1_ := Aside0.mk (Kd.N_elder' (by (with_reducible repeat (first | apply Kd.N_alloc | apply Kd.N_drewN | apply Kd.N_drew)); exact HO_10.out) (Kd.N_base (Kd.S_N ho0)) hb); have n2_ := Aside0.mk (Kd.V_elder' (by (with_reducible repeat (first | apply Kd.V_alloc | apply Kd.V_drewN | apply Kd.V_drew)); exact HO605.out) (Kd.N_base (Kd.S_N ho0)) hb); have n3_ := Aside0.mk (Kd.V_elder' (by (with_reducible repeat (first | apply Kd.V_alloc | apply Kd.V_drewN | apply Kd.V_drew)); exact HO613.out) (Kd.N_base (Kd.S_N ho0)) hb); have n4_ := Aside0.mk (Kd.N_elder' (by (with_reducible repeat (first | apply Kd.N_alloc | apply Kd.N_drewN | apply Kd.N_drew)); exact HO616.out) (Kd.N_base (Kd.S_N ho0)) hb); have n5_ := Aside0.mk (Kd.N_lower (Kd.N_mono (ok' := fun k_ => some k_ ≠ (.slice Ao10 t592.length co10 : Value).ownBlock ∧ some k_ ≠ (v596 : Value).ownBlock ∧ some k_ ≠ (v615 : Value).ownBlock) (Kd.S_N (Kd.S_bound ho0)) (fun k_ hk_ => ⟨(Kd.fresh' (Kd.N_lt (by (with_reducible repeat (first | apply Kd.N_alloc | apply Kd.N_drewN | apply Kd.N_drew)); exact HO_9.out)) k_ hk_.2.1), (Kd.fresh' (Kd.N_lt (by (with_reducible repeat (first | apply Kd.N_alloc | apply Kd.N_drewN | apply Kd.N_drew)); exact HO_10.out)) k_ hk_.2.1), (Kd.fresh' (Kd.N_lt (by (with_reducible repeat (first | apply Kd.N_alloc | apply Kd.N_drewN | apply Kd.N_drew)); exact HO616.out)) k_ hk_.2.1)⟩)) (below_size (by repeat (first | (with_reducible first | exact HB.out | apply yA | apply yN | apply yD) | exact HB.out)))); have n6_ := Aside0.mk (below_step (by repeat (first | (with_reducible first | exact HB.out | apply yA | apply yN | apply yD) | exact HB.out)) hb); clear HO_9; clear HO_10; clear HO605; clear HO613; clear HO616; clear HB; have HO_9 := n0_; have HO_10 := n1_; have HO605 := n2_; have HO613 := n3_; have HO616 := n4_; have HO620 := n5_; have HB := n6_; clear n0_ n1_ n2_ n3_ n4_ n5_ n6_; (try clear hb); (try clear hb2); (try clear hk); (try clear hi); (try clear ho0); obtain ⟨Ao31, co31, eo31⟩ := Kd.N_slice HO616.out; subst eo31) | ((with_reducible refine gate_callee (f := 28) rfl ?_); refine goesL_ (some 62) rfl rfl Tryz.func28 (by kernel_rfl) rfl #[.slice Ao31 y614.length co31] rfl (by (try simp only [List.map_toArray, List.map_cons, List.map_nil]); first | done | rfl | (simp only [List.length_drop, List.length_take]; rfl)) ?_; (with_reducible refine (rows_Canonical.calls _ _ y614 t621 t622 _ ?side1 ?side2 A20.out).mono ?_); (case side1 => repeat (first | exact (Kd.N_reads' HO616.out).2.2 | (with_reducible refine Kd.C_alloc ?_ _) | (with_reducible refine Kd.C_drewN ?_ _) | (with_reducible refine Kd.C_drew ?_))); (case side2 => exact (Kd.N_reads' HO616.out).2.1); rintro e w32 ⟨v623, rfl, ho0, hb⟩; refine ⟨_, rfl, ?_⟩; have n0_ := Aside0.mk (Kd.N_elder' (by (with_reducible repeat (first | apply Kd.N_alloc | apply Kd.N_drewN | apply Kd.N_drew)); exact HO_9.out) (Kd.N_base (Kd.S_N ho0)) hb); have n1_ := Aside0.mk (Kd.N_elder' (by (with_reducible repeat (first | apply Kd.N_alloc | apply Kd.N_drewN | apply Kd.N_drew)); exact HO_10.out) (Kd.N_base (Kd.S_N ho0)) hb); have n2_ := Aside0.mk (Kd.V_elder' (by (with_reducible repeat (first | apply Kd.V_alloc | apply Kd.V_drewN | apply Kd.V_drew)); exact HO605.out) (Kd.N_base (Kd.S_N ho0)) hb); have n3_ := Aside0.mk (Kd.V_elder' (by (with_reducible repeat (first | apply Kd.V_alloc | apply Kd.V_drewN | apply Kd.V_drew)); exact HO613.out) (Kd.N_base (Kd.S_N ho0)) hb); have n4_ := Aside0.mk (Kd.N_elder' (by (with_reducible repeat (first | apply Kd.N_alloc | apply Kd.N_drewN | apply Kd.N_drew)); exact HO616.out) (Kd.N_base (Kd.S_N ho0)) hb); have n5_ := Aside0.mk (Kd.N_elder' (by (with_reducible repeat (first | apply Kd.N_alloc | apply Kd.N_drewN | apply Kd.N_drew)); exact HO620.out) (Kd.N_base (Kd.S_N ho0)) hb); have n6_ := Aside0.mk (Kd.N_lower (Kd.N_mono (ok' := fun k_ => some k_ ≠ (.slice Ao10 t592.length co10 : Value).ownBlock ∧ some k_ ≠ (v596 : Value).ownBlock ∧ some k_ ≠ (.slice Ao31 y614.length co31 : Value).ownBlock ∧ some k_ ≠ (v619 : Value).ownBlock) (Kd.S_N (Kd.S_bound ho0)) (fun k_ hk_ => ⟨(Kd.fresh' (Kd.N_lt (by (with_reducible repeat (first | apply Kd.N_alloc | apply Kd.N_drewN | apply Kd.N_drew)); exact HO_9.out)) k_ hk_.2.1), (Kd.fresh' (Kd.N_lt (by (with_reducible repeat (first | apply Kd.N_alloc | apply Kd.N_drewN | apply Kd.N_drew)); exact HO_10.out)) k_ hk_.2.1), (Kd.fresh' (Kd.N_lt (by (with_reducible repeat (first | apply Kd.N_alloc | apply Kd.N_drewN | apply Kd.N_drew)); exact HO616.out)) k_ hk_.2.1), (Kd.fresh' (Kd.N_lt (by (with_reducible repeat (first | apply Kd.N_alloc | apply Kd.N_drewN | apply Kd.N_drew)); exact HO620.out)) k_ hk_.2.1)⟩)) (below_size (by repeat (first | (with_reducible first | exact HB.out | apply yA | apply yN | apply yD) | exact HB.out)))); have n7_ := Aside0.mk (below_step (by repeat (first | (with_reducible first | exact HB.out | apply yA | apply yN | apply yD) | exact HB.out)) hb); clear HO_9; clear HO_10; clear HO605; clear HO613; clear HO616; clear HO620; clear HB; have HO_9 := n0_; have HO_10 := n1_; have HO605 := n2_; have HO613 := n3_; have HO616 := n4_; have HO620 := n5_; have HO624 := n6_; have HB := n7_; clear n0_ n1_ n2_ n3_ n4_ n5_ n6_ n7_; (try clear hb); (try clear hb2); (try clear hk); (try clear hi); (try clear ho0); obtain ⟨Ao33, co33, eo33⟩ := Kd.N_slice HO_10.out; subst eo33) | ((with_reducible refine gate_callee (f := 42) rfl ?_); refine goesL_ (some 68) rfl rfl Tryz.func42 (by kernel_rfl) rfl #[.slice Ao10 t592.length co10, .slice Ao33 t595.length co33] rfl (by (try simp only [List.map_toArray, List.map_cons, List.map_nil]); first | done | rfl | (simp only [List.length_drop, List.length_take]; rfl)) ?_; (with_reducible refine (rows_Same.calls (fun k_ => (((some k_ ≠ (.slice Ao33 t595.length co33 : Value).ownBlock ∧ some k_ ≠ (.slice Ao31 y614.length co31 : Value).ownBlock) ∧ some k_ ≠ (v619 : Value).ownBlock) ∧ some k_ ≠ (v623 : Value).ownBlock)) _ _ t592 (fun k_ => (((some k_ ≠ (.slice Ao10 t592.length co10 : Value).ownBlock ∧ some k_ ≠ (.slice Ao31 y614.length co31 : Value).ownBlock) ∧ some k_ ≠ (v619 : Value).ownBlock) ∧ some k_ ≠ (v623 : Value).ownBlock)) _ _ t595 t625 t626 _ ?side1 ?side2 A21.out).mono ?_); (case side1 => exact Kd.N_V (HO_9.out)); (case side2 => exact Kd.N_V (HO_10.out)); rintro e w34 ⟨rfl, hb⟩; refine ⟨_, rfl, ?_⟩; have n0_ := Aside0.mk (Kd.N_below (by (with_reducible repeat (first | apply Kd.N_alloc | apply Kd.N_drewN | apply Kd.N_drew)); exact HO_9.out) hb); have n1_ := Aside0.mk (Kd.N_below (by (with_reducible repeat (first | apply Kd.N_alloc | apply Kd.N_drewN | apply Kd.N_drew)); exact HO_10.out) hb); have n2_ := Aside0.mk (Kd.V_below (by (with_reducible repeat (first | apply Kd.V_alloc | apply Kd.V_drewN | apply Kd.V_drew)); exact HO605.out) hb); have n3_ := Aside0.mk (Kd.V_below (by (with_reducible repeat (first | apply Kd.V_alloc | apply Kd.V_drewN | apply Kd.V_drew)); exact HO613.out) hb); have n4_ := Aside0.mk (Kd.N_below (by (with_reducible repeat (first | apply Kd.N_alloc | apply Kd.N_drewN | apply Kd.N_drew)); exact HO616.out) hb); have n5_ := Aside0.mk (Kd.N_below (by (with_reducible repeat (first | apply Kd.N_alloc | apply Kd.N_drewN | apply Kd.N_drew)); exact HO620.out) hb); have n6_ := Aside0.mk (Kd.N_below (by (with_reducible repeat (first | apply Kd.N_alloc | apply Kd.N_drewN | apply Kd.N_drew)); exact HO624.out) hb); have n7_ := Aside0.mk (below_step (by repeat (first | (with_reducible first | exact HB.out | apply yA | apply yN | apply yD) | exact HB.out)) hb); clear HO_9; clear HO_10; clear HO605; clear HO613; clear HO616; clear HO620; clear HO624; clear HB; have HO_9 := n0_; have HO_10 := n1_; have HO605 := n2_; have HO613 := n3_; have HO616 := n4_; have HO620 := n5_; have HO624 := n6_; have HB := n7_; clear n0_ n1_ n2_ n3_ n4_ n5_ n6_ n7_; (try clear hb); (try clear hb2); (try clear hk); (try clear hi)))
       (try simp only [Act.put, List.setIfInBounds_toArray, List.set_cons_zero, List.set_cons_succ])
       go_cut [93] (fun v93 wc => ∃ (kq : Nat) (x93_21 : Bool), v93 = .bool x93_21 ∧ Aside0 (tacticianlaw02_RowsTogether.j1 kq a3 t592 t595 t617 t625 x93_21 = some r) ∧ Aside0 (kq ≤ kj6) ∧ Aside0 (Kd.N (Kd.slice 61 k61) 40 wc w.heap.size (fun k_ => some k_ ≠ ((.slice Ao33 t595.length co33) : Value).ownBlock ∧ some k_ ≠ (v619 : Value).ownBlock) (.slice Ao10 t592.length co10) t592) ∧ Aside0 (Kd.N (Kd.slice 61 k61) 40 wc w.heap.size (fun k_ => some k_ ≠ ((.slice Ao10 t592.length co10) : Value).ownBlock ∧ some k_ ≠ (v619 : Value).ownBlock) (.slice Ao33 t595.length co33) t595) ∧ Aside0 (Kd.N (Kd.slice 61 k61) 40 wc w.heap.size (fun k_ => some k_ ≠ ((.slice Ao10 t592.length co10) : Value).ownBlock ∧ some k_ ≠ ((.slice Ao33 t595.length co33) : Value).ownBlock) v619 t617) ∧ Aside0 (Below w.heap.size w wc))
       case first => as_aux_lemma =>
        have H := HC22.out
        clear HC22
        by_cases c35 : t618 = 0
        ·rw [if_pos c35] at H
         have c35b0 : (t618 == 0) = true := beq_iff_eq.mpr c35
         have c35b1 : (t618 != 0) = false := bne_eq_false_iff_eq.mpr c35
         clear c35
         (first | rw [c35b0] | (simp only [i64_w, i32_w]; rw [c35b0]) | skip)
         by_cases c36 : t622 = 0
         ·rw [if_pos c36] at H
          have c36b0 : (t622 == 0) = true := beq_iff_eq.mpr c36
          have c36b1 : (t622 != 0) = false := bne_eq_false_iff_eq.mpr c36
          clear c36
          by_cases c37 : t626 = 0
          ·rw [if_pos c37] at H
           have c37b0 : (t626 == 0) = true := beq_iff_eq.mpr c37
           have c37b1 : (t626 != 0) = false := bne_eq_false_iff_eq.mpr c37
           clear c37
           replace H := Option.bind_eq_some_iff.mp H
           obtain ⟨t627, A380, H⟩ := H
           replace H : (if t627 = true then (tacticianlaw02_RowsTogether.j1 kj6 a3 t592 t595 t617 t625 ((t617.length : Int) != (t592.length : Int))) else (tacticianlaw02_RowsTogether.j1 kj6 a3 t592 t595 t617 t625 true)) = some r := H
           have A38 := Aside0.mk A380
           clear A380
           by_cases c39 : t627 = true
           ·subst c39
            have H1 : (tacticianlaw02_RowsTogether.j1 kj6 a3 t592 t595 t617 t625 ((t617.length : Int) != (t592.length : Int))) = some r := by rw [if_pos rfl] at H; exact H
            clear H
            have H := H1
            clear H1
            have H' := Aside0.mk H
            clear H
            obtain ⟨Ao40, co40, eo40⟩ := Kd.N_slice HO620.out
            subst eo40
            obtain ⟨Ao41, co41, eo41⟩ := Kd.N_slice HO624.out
            subst eo41
            go_wp2_with (first | (go_at_call 19; (with_reducible refine (tacticianref02_Equal.calls kj6 _ _ t617 _ _ t621 true _ ?side1 ?side2 ?side3 ?side4 A38.out).mono ?_); (case side1 => repeat (first | exact (Kd.N_reads' HO620.out).2.2 | (with_reducible refine Kd.C_alloc ?_ _) | (with_reducible refine Kd.C_drewN ?_ _) | (with_reducible refine Kd.C_drew ?_))); (case side2 => exact (Kd.N_reads' HO620.out).2.1); (case side3 => repeat (first | exact (Kd.N_reads' HO624.out).2.2 | (with_reducible refine Kd.C_alloc ?_ _) | (with_reducible refine Kd.C_drewN ?_ _) | (with_reducible refine Kd.C_drew ?_))); (case side4 => exact (Kd.N_reads' HO624.out).2.1); rintro e w42 ⟨rfl, hb⟩; have n0_ := Aside0.mk (Kd.N_below (by (with_reducible repeat (first | apply Kd.N_alloc | apply Kd.N_drewN | apply Kd.N_drew)); exact HO_9.out) hb); have n1_ := Aside0.mk (Kd.N_below (by (with_reducible repeat (first | apply Kd.N_alloc | apply Kd.N_drewN | apply Kd.N_drew)); exact HO_10.out) hb); have n2_ := Aside0.mk (Kd.V_below (by (with_reducible repeat (first | apply Kd.V_alloc | apply Kd.V_drewN | apply Kd.V_drew)); exact HO605.out) hb); have n3_ := Aside0.mk (Kd.V_below (by (with_reducible repeat (first | apply Kd.V_alloc | apply Kd.V_drewN | apply Kd.V_drew)); exact HO613.out) hb); have n4_ := Aside0.mk (Kd.N_below (by (with_reducible repeat (first | apply Kd.N_alloc | apply Kd.N_drewN | apply Kd.N_drew)); exact HO616.out) hb); have n5_ := Aside0.mk (Kd.N_below (by (with_reducible repeat (first | apply Kd.N_alloc | apply Kd.N_drewN | apply Kd.N_drew)); exact HO620.out) hb); have n6_ := Aside0.mk (Kd.N_below (by (with_reducible repeat (first | apply Kd.N_alloc | apply Kd.N_drewN | apply Kd.N_drew)); exact HO624.out) hb); have n7_ := Aside0.mk (below_step (by repeat (first | (with_reducible first | exact HB.out | apply yA | apply yN | apply yD) | exact HB.out)) hb); clear HO_9; clear HO_10; clear HO605; clear HO613; clear HO616; clear HO620; clear HO624; clear HB; have HO_9 := n0_; have HO_10 := n1_; have HO605 := n2_; have HO613 := n3_; have HO616 := n4_; have HO620 := n5_; have HO624 := n6_; have HB := n7_; clear n0_ n1_ n2_ n3_ n4_ n5_ n6_ n7_; (try clear hb); (try clear hb2); (try clear hk); (try clear hi)))
            go_meet
            case rel => exact ⟨_, (((t617.length : Int) != (t592.length : Int))), (by first | rfl | (simp; done) | (simp [*]; done)), H', ⟨by have := HJ6.out; first | omega | exact Nat.le_refl _⟩, ⟨by (with_reducible repeat (first | apply Kd.N_alloc | apply Kd.N_drewN | apply Kd.N_drew)); exact Kd.N_mono HO_9.out (fun _ hk => ⟨hk.1.1.1, hk.1.2⟩)⟩, ⟨by (with_reducible repeat (first | apply Kd.N_alloc | apply Kd.N_drewN | apply Kd.N_drew)); exact Kd.N_mono HO_10.out (fun _ hk => ⟨hk.1.1.1, hk.1.2⟩)⟩, ⟨by (with_reducible repeat (first | apply Kd.N_alloc | apply Kd.N_drewN | apply Kd.N_drew)); exact Kd.N_mono HO620.out (fun _ hk => ⟨hk.1.1, hk.1.2.1⟩)⟩, ⟨by repeat (first | (with_reducible first | exact HB.out | apply yA | apply yN | apply yD) | exact HB.out)⟩⟩
           ·replace c39 := Bool.eq_false_iff.mpr c39
            subst c39
            have H1 : (tacticianlaw02_RowsTogether.j1 kj6 a3 t592 t595 t617 t625 true) = some r := by rw [if_neg (show ¬ (false = true) by decide)] at H; exact H
            clear H
            have H := H1
            clear H1
            have H' := Aside0.mk H
            clear H
            obtain ⟨Ao43, co43, eo43⟩ := Kd.N_slice HO620.out
            subst eo43
            obtain ⟨Ao44, co44, eo44⟩ := Kd.N_slice HO624.out
            subst eo44
            go_wp2_with (first | (go_at_call 19; (with_reducible refine (tacticianref02_Equal.calls kj6 _ _ t617 _ _ t621 false _ ?side1 ?side2 ?side3 ?side4 A38.out).mono ?_); (case side1 => repeat (first | exact (Kd.N_reads' HO620.out).2.2 | (with_reducible refine Kd.C_alloc ?_ _) | (with_reducible refine Kd.C_drewN ?_ _) | (with_reducible refine Kd.C_drew ?_))); (case side2 => exact (Kd.N_reads' HO620.out).2.1); (case side3 => repeat (first | exact (Kd.N_reads' HO624.out).2.2 | (with_reducible refine Kd.C_alloc ?_ _) | (with_reducible refine Kd.C_drewN ?_ _) | (with_reducible refine Kd.C_drew ?_))); (case side4 => exact (Kd.N_reads' HO624.out).2.1); rintro e w45 ⟨rfl, hb⟩; have n0_ := Aside0.mk (Kd.N_below (by (with_reducible repeat (first | apply Kd.N_alloc | apply Kd.N_drewN | apply Kd.N_drew)); exact HO_9.out) hb); have n1_ := Aside0.mk (Kd.N_below (by (with_reducible repeat (first | apply Kd.N_alloc | apply Kd.N_drewN | apply Kd.N_drew)); exact HO_10.out) hb); have n2_ := Aside0.mk (Kd.V_below (by (with_reducible repeat (first | apply Kd.V_alloc | apply Kd.V_drewN | apply Kd.V_drew)); exact HO605.out) hb); have n3_ := Aside0.mk (Kd.V_below (by (with_reducible repeat (first | apply Kd.V_alloc | apply Kd.V_drewN | apply Kd.V_drew)); exact HO613.out) hb); have n4_ := Aside0.mk (Kd.N_below (by (with_reducible repeat (first | apply Kd.N_alloc | apply Kd.N_drewN | apply Kd.N_drew)); exact HO616.out) hb); have n5_ := Aside0.mk (Kd.N_below (by (with_reducible repeat (first | apply Kd.N_alloc | apply Kd.N_drewN | apply Kd.N_drew)); exact HO620.out) hb); have n6_ := Aside0.mk (Kd.N_below (by (with_reducible repeat (first | apply Kd.N_alloc | apply Kd.N_drewN | apply Kd.N_drew)); exact HO624.out) hb); have n7_ := Aside0.mk (below_step (by repeat (first | (with_reducible first | exact HB.out | apply yA | apply yN | apply yD) | exact HB.out)) hb); clear HO_9; clear HO_10; clear HO605; clear HO613; clear HO616; clear HO620; clear HO624; clear HB; have HO_9 := n0_; have HO_10 := n1_; have HO605 := n2_; have HO613 := n3_; have HO616 := n4_; have HO620 := n5_; have HO624 := n6_; have HB := n7_; clear n0_ n1_ n2_ n3_ n4_ n5_ n6_ n7_; (try clear hb); (try clear hb2); (try clear hk); (try clear hi)))
            go_meet
            case rel => exact ⟨_, (true), (by first | rfl | (simp; done) | (simp [*]; done)), H', ⟨by have := HJ6.out; first | omega | exact Nat.le_refl _⟩, ⟨by (with_reducible repeat (first | apply Kd.N_alloc | apply Kd.N_drewN | apply Kd.N_drew)); exact Kd.N_mono HO_9.out (fun _ hk => ⟨hk.1.1.1, hk.1.2⟩)⟩, ⟨by (with_reducible repeat (first | apply Kd.N_alloc | apply Kd.N_drewN | apply Kd.N_drew)); exact Kd.N_mono HO_10.out (fun _ hk => ⟨hk.1.1.1, hk.1.2⟩)⟩, ⟨by (with_reducible repeat (first | apply Kd.N_alloc | apply Kd.N_drewN | apply Kd.N_drew)); exact Kd.N_mono HO620.out (fun _ hk => ⟨hk.1.1, hk.1.2.1⟩)⟩, ⟨by repeat (first | (with_reducible first | exact HB.out | apply yA | apply yN | apply yD) | exact HB.out)⟩⟩
          ·rw [if_neg c37] at H
           have c37b0 : (t626 == 0) = false := beq_eq_false_iff_ne.mpr c37
           have c37b1 : (t626 != 0) = true := bne_iff_ne.mpr c37
           have H' := Aside0.mk H
           clear H
           go_wp2
           go_meet
           case rel => exact ⟨_, (true), (by first | rfl | (simp; done) | (simp [*]; done)), H', ⟨by have := HJ6.out; first | omega | exact Nat.le_refl _⟩, ⟨by (with_reducible repeat (first | apply Kd.N_alloc | apply Kd.N_drewN | apply Kd.N_drew)); exact Kd.N_mono HO_9.out (fun _ hk => ⟨hk.1.1.1, hk.1.2⟩)⟩, ⟨by (with_reducible repeat (first | apply Kd.N_alloc | apply Kd.N_drewN | apply Kd.N_drew)); exact Kd.N_mono HO_10.out (fun _ hk => ⟨hk.1.1.1, hk.1.2⟩)⟩, ⟨by (with_reducible repeat (first | apply Kd.N_alloc | apply Kd.N_drewN | apply Kd.N_drew)); exact Kd.N_mono HO620.out (fun _ hk => ⟨hk.1.1, hk.1.2.1⟩)⟩, ⟨by repeat (first | (with_reducible first | exact HB.out | apply yA | apply yN | apply yD) | exact HB.out)⟩⟩
         ·rw [if_neg c36] at H
          have c36b0 : (t622 == 0) = false := beq_eq_false_iff_ne.mpr c36
          have c36b1 : (t622 != 0) = true := bne_iff_ne.mpr c36
          have H' := Aside0.mk H
          clear H
          go_wp2
          go_meet
          case rel => exact ⟨_, (true), (by first | rfl | (simp; done) | (simp [*]; done)), H', ⟨by have := HJ6.out; first | omega | exact Nat.le_refl _⟩, ⟨by (with_reducible repeat (first | apply Kd.N_alloc | apply Kd.N_drewN | apply Kd.N_drew)); exact Kd.N_mono HO_9.out (fun _ hk => ⟨hk.1.1.1, hk.1.2⟩)⟩, ⟨by (with_reducible repeat (first | apply Kd.N_alloc | apply Kd.N_drewN | apply Kd.N_drew)); exact Kd.N_mono HO_10.out (fun _ hk => ⟨hk.1.1.1, hk.1.2⟩)⟩, ⟨by (with_reducible repeat (first | apply Kd.N_alloc | apply Kd.N_drewN | apply Kd.N_drew)); exact Kd.N_mono HO620.out (fun _ hk => ⟨hk.1.1, hk.1.2.1⟩)⟩, ⟨by repeat (first | (with_reducible first | exact HB.out | apply yA | apply yN | apply yD) | exact HB.out)⟩⟩
        ·rw [if_neg c35] at H
         have c35b0 : (t618 == 0) = false := beq_eq_false_iff_ne.mpr c35
         have c35b1 : (t618 != 0) = true := bne_iff_ne.mpr c35
         (first | rw [c35b0] | (simp only [i64_w, i32_w]; rw [c35b0]) | skip)
         have H' := Aside0.mk H
         clear H
         go_wp2
         go_meet
         case rel => exact ⟨_, (true), (by first | rfl | (simp; done) | (simp [*]; done)), H', ⟨by have := HJ6.out; first | omega | exact Nat.le_refl _⟩, ⟨by (with_reducible repeat (first | apply Kd.N_alloc | apply Kd.N_drewN | apply Kd.N_drew)); exact Kd.N_mono HO_9.out (fun _ hk => ⟨hk.1.1.1, hk.1.2⟩)⟩, ⟨by (with_reducible repeat (first | apply Kd.N_alloc | apply Kd.N_drewN | apply Kd.N_drew)); exact Kd.N_mono HO_10.out (fun _ hk => ⟨hk.1.1.1, hk.1.2⟩)⟩, ⟨by (with_reducible repeat (first | apply Kd.N_alloc | apply Kd.N_drewN | apply Kd.N_drew)); exact Kd.N_mono HO620.out (fun _ hk => ⟨hk.1.1, hk.1.2.1⟩)⟩, ⟨by repeat (first | (with_reducible first | exact HB.out | apply yA | apply yN | apply yD) | exact HB.out)⟩⟩
       case rest => as_aux_lemma =>
        clear HC22
        try clear c1
        try clear c2
        try clear p2
        try clear q2
        try clear c3
        try clear c4
        try clear p6
        try clear c10
        try clear c11
        try clear c11b0
        try clear c11b1
        try clear c12
        try clear c12b0
        try clear c12b1
        try clear c12b2
        try clear c13
        try clear c13b0
        try clear c13b1
        try clear c14
        try clear c14b0
        try clear c14b1
        try clear c15
        try clear c16
        try clear c16b0
        try clear c17
        try clear c17b0
        try clear c18
        try clear c24
        try clear q24
        try clear q25
        try clear c28
        try clear c35
        try clear c35b0
        try clear c35b1
        try clear c36
        try clear c36b0
        try clear c36b1
        try clear c37
        try clear c37b0
        try clear c37b1
        try clear c38
        try clear c39
        try clear c42
        try clear p2
        try clear p6
        try clear q024
        try clear q24
        try clear q25
        obtain ⟨kq, x93_21, rfl, HA, HJ21, HO_9, HO_10, HO_13, HB⟩ := hcut
        cases kq with
        | zero => exact absurd HA.out (by simp [tacticianlaw02_RowsTogether.j1])
        | succ kj21 =>
         have H := HA.out
         clear HA
         simp only [tacticianlaw02_RowsTogether.j1] at H
         by_cases c46 : x93_21 = true
         ·subst c46
          have H1 : (some false) = some r := by rw [if_pos rfl] at H; exact H
          clear H
          have H := H1
          clear H1
          exact absurd ((Option.some.inj H).trans hr_.out) (by decide)
         ·replace c46 := Bool.eq_false_iff.mpr c46
          subst c46
          have H1 : (tacticianlaw02_RowsTogether.l0 kj21 a3 t592 t595 t617 t625 ((t592.length : Int) == (t595.length : Int)) 0) = some r := by rw [if_neg (show ¬ (false = true) by decide)] at H; exact H
          clear H
          have H := H1
          clear H1
          have H' := Aside0.mk H
          clear H
          go_wp2
          go_loopg [19, 20] kj21 (fun kq v19 v20 w' => ∃ (x19_3 : Bool) (x20_3 : Int), v19 = .bool x19_3 ∧ v20 = .int .i64 x20_3 ∧ Aside0 (tacticianlaw02_RowsTogether.l0 kq a3 t592 t595 t617 t625 x19_3 x20_3 = some r) ∧ Aside0 (kq ≤ kj21) ∧ Aside0 (Kd.N (Kd.slice 61 k61) 40 w' w.heap.size (fun k_ => some k_ ≠ ((.slice Ao33 t595.length co33) : Value).ownBlock ∧ some k_ ≠ (v619 : Value).ownBlock) (.slice Ao10 t592.length co10) t592) ∧ Aside0 (Kd.N (Kd.slice 61 k61) 40 w' w.heap.size (fun k_ => some k_ ≠ ((.slice Ao10 t592.length co10) : Value).ownBlock ∧ some k_ ≠ (v619 : Value).ownBlock) (.slice Ao33 t595.length co33) t595) ∧ Aside0 (Kd.N (Kd.slice 61 k61) 40 w' w.heap.size (fun k_ => some k_ ≠ ((.slice Ao10 t592.length co10) : Value).ownBlock ∧ some k_ ≠ ((.slice Ao33 t595.length co33) : Value).ownBlock) v619 t617) ∧ Aside0 (Below w.heap.size w w'))
          case atStart => exact ⟨(((t592.length : Int) == (t595.length : Int))), (0), (by first | rfl | (simp; done) | (simp [*]; done)), (by first | rfl | (simp; done) | (simp [*]; done)), H', ⟨Nat.le_refl _⟩, ⟨by (with_reducible repeat (first | apply Kd.N_alloc | apply Kd.N_drewN | apply Kd.N_drew)); exact HO_9.out⟩, ⟨by (with_reducible repeat (first | apply Kd.N_alloc | apply Kd.N_drewN | apply Kd.N_drew)); exact HO_10.out⟩, ⟨by (with_reducible repeat (first | apply Kd.N_alloc | apply Kd.N_drewN | apply Kd.N_drew)); exact HO_13.out⟩, ⟨by repeat (first | (with_reducible first | exact HB.out | apply yA | apply yN | apply yD) | exact HB.out)⟩⟩
          case round => as_aux_lemma =>
           clear H'
           try clear c1
           try clear c2
           try clear p2
           try clear q2
           try clear c3
           try clear c4
           try clear p6
           try clear c10
           try clear c11
           try clear c11b0
           try clear c11b1
           try clear c12
           try clear c12b0
           try clear c12b1
           try clear c12b2
           try clear c13
           try clear c13b0
           try clear c13b1
           try clear c14
           try clear c14b0
           try clear c14b1
           try clear c15
           try clear c16
           try clear c16b0
           try clear c17
           try clear c17b0
           try clear c18
           try clear c24
           try clear q24
           try clear q25
           try clear c28
           try clear c35
           try clear c35b0
           try clear c35b1
           try clear c36
           try clear c36b0
           try clear c36b1
           try clear c37
           try clear c37b0
           try clear c37b1
           try clear c38
           try clear c39
           try clear c42
           try clear c46
           try clear p2
           try clear p6
           try clear q024
           try clear q2
           try clear q24
           try clear q25
           obtain ⟨x19_3, x20_3, rfl, rfl, HA, HK3, HO_9, HO_10, HO_13, HB⟩ := hrel
           cases gk with
           | zero => exact absurd HA.out (by simp [tacticianlaw02_RowsTogether.l0])
           | succ k3 =>
            have H := HA.out
            clear HA
            simp only [tacticianlaw02_RowsTogether.l0] at H
            by_cases c47 : x20_3 < (t592.length : Int)
            ·rw [if_pos c47] at H
             have c47b0 : decide (x20_3 < (t592.length : Int)) = true := decide_eq_true c47
             clear c47
             by_cases c48 : 0 ≤ x20_3
             ·rw [if_pos c48] at H
              have c48b0 : decide (0 ≤ x20_3) = true := decide_eq_true c48
              clear c48
              replace H := Option.bind_eq_some_iff.mp H
              obtain ⟨⟨t629, t630⟩, A490, H⟩ := H
              replace H : ((rows_Times.f t595 (rd_L3 t592 x20_3)).bind fun bt632 => (if t630 = 0 then (if bt632.2 = 0 then (if x19_3 = true then (tacticianlaw02_RowsTogether.l0 k3 a3 t592 t595 t617 t625 (t629 == bt632.1) (wrap64 (x20_3 + 1))) else (tacticianlaw02_RowsTogether.l0 k3 a3 t592 t595 t617 t625 false (wrap64 (x20_3 + 1)))) else (some false)) else (some false))) = some r := H
              have A49 := Aside0.mk A490
              clear A490
              replace H := Option.bind_eq_some_iff.mp H
              obtain ⟨⟨t632, t633⟩, A500, H⟩ := H
              replace H : (if t630 = 0 then (if t633 = 0 then (if x19_3 = true then (tacticianlaw02_RowsTogether.l0 k3 a3 t592 t595 t617 t625 (t629 == t632) (wrap64 (x20_3 + 1))) else (tacticianlaw02_RowsTogether.l0 k3 a3 t592 t595 t617 t625 false (wrap64 (x20_3 + 1)))) else (some false)) else (some false)) = some r := H
              have A50 := Aside0.mk A500
              clear A500
              by_cases c51 : t630 = 0
              ·rw [if_pos c51] at H
               have c51b0 : (t630 == 0) = true := beq_iff_eq.mpr c51
               have c51b1 : (t630 != 0) = false := bne_eq_false_iff_eq.mpr c51
               clear c51
               by_cases c52 : t633 = 0
               ·rw [if_pos c52] at H
                have c52b0 : (t633 == 0) = true := beq_iff_eq.mpr c52
                have c52b1 : (t633 != 0) = false := bne_eq_false_iff_eq.mpr c52
                clear c52
                by_cases c53 : x19_3 = true
                ·subst c53
                 have H1 : (tacticianlaw02_RowsTogether.l0 k3 a3 t592 t595 t617 t625 (t629 == t632) (wrap64 (x20_3 + 1))) = some r := by rw [if_pos rfl] at H; exact H
                 clear H
                 have H := H1
                 clear H1
                 have H' := Aside0.mk H
                 clear H
                 have p628 : 0 ≤ (x20_3 : Int) := of_decide_eq_true (by first | (with_reducible assumption) | assumption)
                 have q628 : x20_3 < (t592.length : Int) := of_decide_eq_true (by first | (with_reducible assumption) | assumption)
                 obtain ⟨ad628, A628_0, c628_0, e628, hx628_0, hl628_0, hi628_0⟩ := at_L3 (Kd.N_reads' HO_9.out).2.2 x20_3 p628 q628
                 cases e628
                 obtain ⟨ce628, hce628, hMe628, hcc628⟩ := Kd.N_get HO_9.out [] x20_3 p628 (by first | exact q628 | exact of_decide_eq_true (by first | (with_reducible assumption) | assumption) | (have e_ := (Kd.N_reads' HO_9.out).1; omega))
                 obtain ⟨ua628_0, uc628_0, rfl, ul628_0, ge628_0⟩ := Kd.FK_slice_open hMe628
                 have hv628_0 := hcc628 0 _ rfl
                 rw [Nat.add_zero, show ((Kd.slice 61 k61)).sz = 1 from rfl, Nat.mul_one] at hv628_0
                 replace hv628_0 := Option.some.inj (hv628_0.symm.trans hx628_0)
                 injection hv628_0 with hva_ hvn_ hvc_
                 rw [hva_] at ge628_0
                 rw [hvc_] at ul628_0
                 have HL628_0 := Aside0.mk (show Kd.V k61 61 _ w.heap.size _ _ (rd_L3 t592 x20_3) from Kd.V_mk ul628_0 ge628_0)
                 clear hva_ hvn_ hvc_ ge628_0 ul628_0
                 clear hcc628 hce628
                 have HR628_0 := Aside0.mk hi628_0
                 have HC628_0 := Aside0.mk hl628_0
                 clear hi628_0 hl628_0
                 replace p628 := eq_true p628
                 replace q628 := eq_true q628
                 go_wp2_with (first | ((with_reducible refine gate_callee (f := 43) rfl ?_); refine goesL_ (some 111) rfl rfl Tryz.func43 (by kernel_rfl) rfl #[.slice (some ad628) t592.length co10, .slice A628_0 (rd_L3 t592 x20_3).length c628_0] rfl (by (try simp only [List.map_toArray, List.map_cons, List.map_nil]); first | done | rfl | (simp only [List.length_drop, List.length_take]; rfl)) ?_; (with_reducible refine (rows_Times.calls _ _ t592 _ _ (rd_L3 t592 x20_3) t629 t630 _ ?side1 ?side2 ?side3 ?side4 A49.out).mono ?_); (case side1 => repeat (first | exact (Kd.N_reads' HO_9.out).2.2 | (with_reducible refine Kd.C_alloc ?_ _) | (with_reducible refine Kd.C_drewN ?_ _) | (with_reducible refine Kd.C_drew ?_))); (case side2 => exact (Kd.N_reads' HO_9.out).2.1); (case side3 => repeat (first | exact (by repeat (first | (with_reducible exact HR628_0.out) | (with_reducible refine Kd.C_alloc ?_ _) | (with_reducible refine Kd.C_drewN ?_ _) | (with_reducible refine Kd.C_drew ?_) | exact HR628_0.out)) | (with_reducible refine Kd.C_alloc ?_ _) | (with_reducible refine Kd.C_drewN ?_ _) | (with_reducible refine Kd.C_drew ?_))); (case side4 => exact HC628_0.out); rintro e w54 ⟨rfl, hb⟩; refine ⟨_, rfl, ?_⟩; have n0_ := Aside0.mk (Kd.N_below (by (with_reducible repeat (first | apply Kd.N_alloc | apply Kd.N_drewN | apply Kd.N_drew)); exact HO_9.out) hb); have n1_ := Aside0.mk (Kd.N_below (by (with_reducible repeat (first | apply Kd.N_alloc | apply Kd.N_drewN | apply Kd.N_drew)); exact HO_10.out) hb); have n2_ := Aside0.mk (Kd.N_below (by (with_reducible repeat (first | apply Kd.N_alloc | apply Kd.N_drewN | apply Kd.N_drew)); exact HO_13.out) hb); have n3_ := Aside0.mk (Kd.V_below (by (with_reducible repeat (first | apply Kd.V_alloc | apply Kd.V_drewN | apply Kd.V_drew)); exact HL628_0.out) hb); have n4_ := Aside0.mk (Kd.C_below (by repeat (first | (with_reducible exact HR628_0.out) | (with_reducible refine Kd.C_alloc ?_ _) | (with_reducible refine Kd.C_drewN ?_ _) | (with_reducible refine Kd.C_drew ?_) | exact HR628_0.out)) hb); have n5_ := Aside0.mk (below_step (by repeat (first | (with_reducible first | exact HB.out | apply yA | apply yN | apply yD) | exact HB.out)) hb); clear HO_9; clear HO_10; clear HO_13; clear HL628_0; clear HR628_0; clear HB; have HO_9 := n0_; have HO_10 := n1_; have HO_13 := n2_; have HL628_0 := n3_; have HR628_0 := n4_; have HB := n5_; clear n0_ n1_ n2_ n3_ n4_ n5_; (try clear hb); (try clear hb2); (try clear hk); (try clear hi); have p631 : 0 ≤ (x20_3 : Int) := of_decide_eq_true (by first | (with_reducible assumption) | assumption); have q631 : x20_3 < (t592.length : Int) := of_decide_eq_true (by first | (with_reducible assumption) | assumption); obtain ⟨ad631, A631_0, c631_0, e631, hx631_0, hl631_0, hi631_0⟩ := at_L3 (Kd.N_reads' HO_9.out).2.2 x20_3 p631 q631; obtain rfl : ad628 = ad631 := (by injection e631); obtain ⟨ce631, hce631, hMe631, hcc631⟩ := Kd.N_get HO_9.out [] x20_3 p631 (by first | exact q631 | exact of_decide_eq_true (by first | (with_reducible assumption) | assumption) | (have e_ := (Kd.N_reads' HO_9.out).1; omega)); obtain ⟨ua631_0, uc631_0, rfl, ul631_0, ge631_0⟩ := Kd.FK_slice_open hMe631; have hv631_0 := hcc631 0 _ rfl; rw [Nat.add_zero, show ((Kd.slice 61 k61)).sz = 1 from rfl, Nat.mul_one] at hv631_0; replace hv631_0 := Option.some.inj (hv631_0.symm.trans hx631_0); injection hv631_0 with hva_ hvn_ hvc_; rw [hva_] at ge631_0; rw [hvc_] at ul631_0; have HL631_0 := Aside0.mk (show Kd.V k61 61 _ w.heap.size _ _ (rd_L3 t592 x20_3) from Kd.V_mk ul631_0 ge631_0); clear hva_ hvn_ hvc_ ge631_0 ul631_0; clear hcc631 hce631; have HR631_0 := Aside0.mk hi631_0; have HC631_0 := Aside0.mk hl631_0; clear hi631_0 hl631_0; replace p631 := eq_true p631; replace q631 := eq_true q631) | ((with_reducible refine gate_callee (f := 43) rfl ?_); refine goesL_ (some 120) rfl rfl Tryz.func43 (by kernel_rfl) rfl #[.slice Ao33 t595.length co33, .slice A631_0 (rd_L3 t592 x20_3).length c631_0] rfl (by (try simp only [List.map_toArray, List.map_cons, List.map_nil]); first | done | rfl | (simp only [List.length_drop, List.length_take]; rfl)) ?_; (with_reducible refine (rows_Times.calls _ _ t595 _ _ (rd_L3 t592 x20_3) t632 t633 _ ?side1 ?side2 ?side3 ?side4 A50.out).mono ?_); (case side1 => repeat (first | exact (Kd.N_reads' HO_10.out).2.2 | (with_reducible refine Kd.C_alloc ?_ _) | (with_reducible refine Kd.C_drewN ?_ _) | (with_reducible refine Kd.C_drew ?_))); (case side2 => exact (Kd.N_reads' HO_10.out).2.1); (case side3 => repeat (first | exact (by repeat (first | (with_reducible exact HR631_0.out) | (with_reducible refine Kd.C_alloc ?_ _) | (with_reducible refine Kd.C_drewN ?_ _) | (with_reducible refine Kd.C_drew ?_) | exact HR631_0.out)) | (with_reducible refine Kd.C_alloc ?_ _) | (with_reducible refine Kd.C_drewN ?_ _) | (with_reducible refine Kd.C_drew ?_))); (case side4 => exact HC631_0.out); rintro e w55 ⟨rfl, hb⟩; refine ⟨_, rfl, ?_⟩; have n0_ := Aside0.mk (Kd.N_below (by (with_reducible repeat (first | apply Kd.N_alloc | apply Kd.N_drewN | apply Kd.N_drew)); exact HO_9.out) hb); have n1_ := Aside0.mk (Kd.N_below (by (with_reducible repeat (first | apply Kd.N_alloc | apply Kd.N_drewN | apply Kd.N_drew)); exact HO_10.out) hb); have n2_ := Aside0.mk (Kd.N_below (by (with_reducible repeat (first | apply Kd.N_alloc | apply Kd.N_drewN | apply Kd.N_drew)); exact HO_13.out) hb); have n3_ := Aside0.mk (Kd.V_below (by (with_reducible repeat (first | apply Kd.V_alloc | apply Kd.V_drewN | apply Kd.V_drew)); exact HL628_0.out) hb); have n4_ := Aside0.mk (Kd.V_below (by (with_reducible repeat (first | apply Kd.V_alloc | apply Kd.V_drewN | apply Kd.V_drew)); exact HL631_0.out) hb); have n5_ := Aside0.mk (Kd.C_below (by repeat (first | (with_reducible exact HR628_0.out) | (with_reducible refine Kd.C_alloc ?_ _) | (with_reducible refine Kd.C_drewN ?_ _) | (with_reducible refine Kd.C_drew ?_) | exact HR628_0.out)) hb); have n6_ := Aside0.mk (Kd.C_below (by repeat (first | (with_reducible exact HR631_0.out) | (with_reducible refine Kd.C_alloc ?_ _) | (with_reducible refine Kd.C_drewN ?_ _) | (with_reducible refine Kd.C_drew ?_) | exact HR631_0.out)) hb); have n7_ := Aside0.mk (below_step (by repeat (first | (with_reducible first | exact HB.out | apply yA | apply yN | apply yD) | exact HB.out)) hb); clear HO_9; clear HO_10; clear HO_13; clear HL628_0; clear HL631_0; clear HR628_0; clear HR631_0; clear HB; have HO_9 := n0_; have HO_10 := n1_; have HO_13 := n2_; have HL628_0 := n3_; have HL631_0 := n4_; have HR628_0 := n5_; have HR631_0 := n6_; have HB := n7_; clear n0_ n1_ n2_ n3_ n4_ n5_ n6_ n7_; (try clear hb); (try clear hb2); (try clear hk); (try clear hi)))
                 go_roundg k3
                 case measure => have := HJ6.out; have := HJ21.out; have := HK3.out; omega
                 case rel => exact ⟨((t629 == t632)), (wrap64 (x20_3 + 1)), (by first | rfl | (simp; done) | (simp [*]; done)), (by first | rfl | (simp; done) | (simp [*]; done)), H', ⟨by have := HJ6.out; have := HJ21.out; have := HK3.out; omega⟩, ⟨by (with_reducible repeat (first | apply Kd.N_alloc | apply Kd.N_drewN | apply Kd.N_drew)); exact HO_9.out⟩, ⟨by (with_reducible repeat (first | apply Kd.N_alloc | apply Kd.N_drewN | apply Kd.N_drew)); exact HO_10.out⟩, ⟨by (with_reducible repeat (first | apply Kd.N_alloc | apply Kd.N_drewN | apply Kd.N_drew)); exact HO_13.out⟩, ⟨by repeat (first | (with_reducible first | exact HB.out | apply yA | apply yN | apply yD) | exact HB.out)⟩⟩
                ·replace c53 := Bool.eq_false_iff.mpr c53
                 subst c53
                 have H1 : (tacticianlaw02_RowsTogether.l0 k3 a3 t592 t595 t617 t625 false (wrap64 (x20_3 + 1))) = some r := by rw [if_neg (show ¬ (false = true) by decide)] at H; exact H
                 clear H
                 have H := H1
                 clear H1
                 have H' := Aside0.mk H
                 clear H
                 have p628 : 0 ≤ (x20_3 : Int) := of_decide_eq_true (by first | (with_reducible assumption) | assumption)
                 have q628 : x20_3 < (t592.length : Int) := of_decide_eq_true (by first | (with_reducible assumption) | assumption)
                 obtain ⟨ad628, A628_0, c628_0, e628, hx628_0, hl628_0, hi628_0⟩ := at_L3 (Kd.N_reads' HO_9.out).2.2 x20_3 p628 q628
                 cases e628
                 obtain ⟨ce628, hce628, hMe628, hcc628⟩ := Kd.N_get HO_9.out [] x20_3 p628 (by first | exact q628 | exact of_decide_eq_true (by first | (with_reducible assumption) | assumption) | (have e_ := (Kd.N_reads' HO_9.out).1; omega))
                 obtain ⟨ua628_0, uc628_0, rfl, ul628_0, ge628_0⟩ := Kd.FK_slice_open hMe628
                 have hv628_0 := hcc628 0 _ rfl
                 rw [Nat.add_zero, show ((Kd.slice 61 k61)).sz = 1 from rfl, Nat.mul_one] at hv628_0
                 replace hv628_0 := Option.some.inj (hv628_0.symm.trans hx628_0)
                 injection hv628_0 with hva_ hvn_ hvc_
                 rw [hva_] at ge628_0
                 rw [hvc_] at ul628_0
                 have HL628_0 := Aside0.mk (show Kd.V k61 61 _ w.heap.size _ _ (rd_L3 t592 x20_3) from Kd.V_mk ul628_0 ge628_0)
                 clear hva_ hvn_ hvc_ ge628_0 ul628_0
                 clear hcc628 hce628
                 have HR628_0 := Aside0.mk hi628_0
                 have HC628_0 := Aside0.mk hl628_0
                 clear hi628_0 hl628_0
                 replace p628 := eq_true p628
                 replace q628 := eq_true q628
                 go_wp2_with (first | ((with_reducible refine gate_callee (f := 43) rfl ?_); refine goesL_ (some 111) rfl rfl Tryz.func43 (by kernel_rfl) rfl #[.slice (some ad628) t592.length co10, .slice A628_0 (rd_L3 t592 x20_3).length c628_0] rfl (by (try simp only [List.map_toArray, List.map_cons, List.map_nil]); first | done | rfl | (simp only [List.length_drop, List.length_take]; rfl)) ?_; (with_reducible refine (rows_Times.calls _ _ t592 _ _ (rd_L3 t592 x20_3) t629 t630 _ ?side1 ?side2 ?side3 ?side4 A49.out).mono ?_); (case side1 => repeat (first | exact (Kd.N_reads' HO_9.out).2.2 | (with_reducible refine Kd.C_alloc ?_ _) | (with_reducible refine Kd.C_drewN ?_ _) | (with_reducible refine Kd.C_drew ?_))); (case side2 => exact (Kd.N_reads' HO_9.out).2.1); (case side3 => repeat (first | exact (by repeat (first | (with_reducible exact HR628_0.out) | (with_reducible refine Kd.C_alloc ?_ _) | (with_reducible refine Kd.C_drewN ?_ _) | (with_reducible refine Kd.C_drew ?_) | exact HR628_0.out)) | (with_reducible refine Kd.C_alloc ?_ _) | (with_reducible refine Kd.C_drewN ?_ _) | (with_reducible refine Kd.C_drew ?_))); (case side4 => exact HC628_0.out); rintro e w56 ⟨rfl, hb⟩; refine ⟨_, rfl, ?_⟩; have n0_ := Aside0.mk (Kd.N_below (by (with_reducible repeat (first | apply Kd.N_alloc | apply Kd.N_drewN | apply Kd.N_drew)); exact HO_9.out) hb); have n1_ := Aside0.mk (Kd.N_below (by (with_reducible repeat (first | apply Kd.N_alloc | apply Kd.N_drewN | apply Kd.N_drew)); exact HO_10.out) hb); have n2_ := Aside0.mk (Kd.N_below (by (with_reducible repeat (first | apply Kd.N_alloc | apply Kd.N_drewN | apply Kd.N_drew)); exact HO_13.out) hb); have n3_ := Aside0.mk (Kd.V_below (by (with_reducible repeat (first | apply Kd.V_alloc | apply Kd.V_drewN | apply Kd.V_drew)); exact HL628_0.out) hb); have n4_ := Aside0.mk (Kd.C_below (by repeat (first | (with_reducible exact HR628_0.out) | (with_reducible refine Kd.C_alloc ?_ _) | (with_reducible refine Kd.C_drewN ?_ _) | (with_reducible refine Kd.C_drew ?_) | exact HR628_0.out)) hb); have n5_ := Aside0.mk (below_step (by repeat (first | (with_reducible first | exact HB.out | apply yA | apply yN | apply yD) | exact HB.out)) hb); clear HO_9; clear HO_10; clear HO_13; clear HL628_0; clear HR628_0; clear HB; have HO_9 := n0_; have HO_10 := n1_; have HO_13 := n2_; have HL628_0 := n3_; have HR628_0 := n4_; have HB := n5_; clear n0_ n1_ n2_ n3_ n4_ n5_; (try clear hb); (try clear hb2); (try clear hk); (try clear hi); have p631 : 0 ≤ (x20_3 : Int) := of_decide_eq_true (by first | (with_reducible assumption) | assumption); have q631 : x20_3 < (t592.length : Int) := of_decide_eq_true (by first | (with_reducible assumption) | assumption); obtain ⟨ad631, A631_0, c631_0, e631, hx631_0, hl631_0, hi631_0⟩ := at_L3 (Kd.N_reads' HO_9.out).2.2 x20_3 p631 q631; obtain rfl : ad628 = ad631 := (by injection e631); obtain ⟨ce631, hce631, hMe631, hcc631⟩ := Kd.N_get HO_9.out [] x20_3 p631 (by first | exact q631 | exact of_decide_eq_true (by first | (with_reducible assumption) | assumption) | (have e_ := (Kd.N_reads' HO_9.out).1; omega)); obtain ⟨ua631_0, uc631_0, rfl, ul631_0, ge631_0⟩ := Kd.FK_slice_open hMe631; have hv631_0 := hcc631 0 _ rfl; rw [Nat.add_zero, show ((Kd.slice 61 k61)).sz = 1 from rfl, Nat.mul_one] at hv631_0; replace hv631_0 := Option.some.inj (hv631_0.symm.trans hx631_0); injection hv631_0 with hva_ hvn_ hvc_; rw [hva_] at ge631_0; rw [hvc_] at ul631_0; have HL631_0 := Aside0.mk (show Kd.V k61 61 _ w.heap.size _ _ (rd_L3 t592 x20_3) from Kd.V_mk ul631_0 ge631_0); clear hva_ hvn_ hvc_ ge631_0 ul631_0; clear hcc631 hce631; have HR631_0 := Aside0.mk hi631_0; have HC631_0 := Aside0.mk hl631_0; clear hi631_0 hl631_0; replace p631 := eq_true p631; replace q631 := eq_true q631) | ((with_reducible refine gate_callee (f := 43) rfl ?_); refine goesL_ (some 120) rfl rfl Tryz.func43 (by kernel_rfl) rfl #[.slice Ao33 t595.length co33, .slice A631_0 (rd_L3 t592 x20_3).length c631_0] rfl (by (try simp only [List.map_toArray, List.map_cons, List.map_nil]); first | done | rfl | (simp only [List.length_drop, List.length_take]; rfl)) ?_; (with_reducible refine (rows_Times.calls _ _ t595 _ _ (rd_L3 t592 x20_3) t632 t633 _ ?side1 ?side2 ?side3 ?side4 A50.out).mono ?_); (case side1 => repeat (first | exact (Kd.N_reads' HO_10.out).2.2 | (with_reducible refine Kd.C_alloc ?_ _) | (with_reducible refine Kd.C_drewN ?_ _) | (with_reducible refine Kd.C_drew ?_))); (case side2 => exact (Kd.N_reads' HO_10.out).2.1); (case side3 => repeat (first | exact (by repeat (first | (with_reducible exact HR631_0.out) | (with_reducible refine Kd.C_alloc ?_ _) | (with_reducible refine Kd.C_drewN ?_ _) | (with_reducible refine Kd.C_drew ?_) | exact HR631_0.out)) | (with_reducible refine Kd.C_alloc ?_ _) | (with_reducible refine Kd.C_drewN ?_ _) | (with_reducible refine Kd.C_drew ?_))); (case side4 => exact HC631_0.out); rintro e w57 ⟨rfl, hb⟩; refine ⟨_, rfl, ?_⟩; have n0_ := Aside0.mk (Kd.N_below (by (with_reducible repeat (first | apply Kd.N_alloc | apply Kd.N_drewN | apply Kd.N_drew)); exact HO_9.out) hb); have n1_ := Aside0.mk (Kd.N_below (by (with_reducible repeat (first | apply Kd.N_alloc | apply Kd.N_drewN | apply Kd.N_drew)); exact HO_10.out) hb); have n2_ := Aside0.mk (Kd.N_below (by (with_reducible repeat (first | apply Kd.N_alloc | apply Kd.N_drewN | apply Kd.N_drew)); exact HO_13.out) hb); have n3_ := Aside0.mk (Kd.V_below (by (with_reducible repeat (first | apply Kd.V_alloc | apply Kd.V_drewN | apply Kd.V_drew)); exact HL628_0.out) hb); have n4_ := Aside0.mk (Kd.V_below (by (with_reducible repeat (first | apply Kd.V_alloc | apply Kd.V_drewN | apply Kd.V_drew)); exact HL631_0.out) hb); have n5_ := Aside0.mk (Kd.C_below (by repeat (first | (with_reducible exact HR628_0.out) | (with_reducible refine Kd.C_alloc ?_ _) | (with_reducible refine Kd.C_drewN ?_ _) | (with_reducible refine Kd.C_drew ?_) | exact HR628_0.out)) hb); have n6_ := Aside0.mk (Kd.C_below (by repeat (first | (with_reducible exact HR631_0.out) | (with_reducible refine Kd.C_alloc ?_ _) | (with_reducible refine Kd.C_drewN ?_ _) | (with_reducible refine Kd.C_drew ?_) | exact HR631_0.out)) hb); have n7_ := Aside0.mk (below_step (by repeat (first | (with_reducible first | exact HB.out | apply yA | apply yN | apply yD) | exact HB.out)) hb); clear HO_9; clear HO_10; clear HO_13; clear HL628_0; clear HL631_0; clear HR628_0; clear HR631_0; clear HB; have HO_9 := n0_; have HO_10 := n1_; have HO_13 := n2_; have HL628_0 := n3_; have HL631_0 := n4_; have HR628_0 := n5_; have HR631_0 := n6_; have HB := n7_; clear n0_ n1_ n2_ n3_ n4_ n5_ n6_ n7_; (try clear hb); (try clear hb2); (try clear hk); (try clear hi)))
                 go_roundg k3
                 case measure => have := HJ6.out; have := HJ21.out; have := HK3.out; omega
                 case rel => exact ⟨(false), (wrap64 (x20_3 + 1)), (by first | rfl | (simp; done) | (simp [*]; done)), (by first | rfl | (simp; done) | (simp [*]; done)), H', ⟨by have := HJ6.out; have := HJ21.out; have := HK3.out; omega⟩, ⟨by (with_reducible repeat (first | apply Kd.N_alloc | apply Kd.N_drewN | apply Kd.N_drew)); exact HO_9.out⟩, ⟨by (with_reducible repeat (first | apply Kd.N_alloc | apply Kd.N_drewN | apply Kd.N_drew)); exact HO_10.out⟩, ⟨by (with_reducible repeat (first | apply Kd.N_alloc | apply Kd.N_drewN | apply Kd.N_drew)); exact HO_13.out⟩, ⟨by repeat (first | (with_reducible first | exact HB.out | apply yA | apply yN | apply yD) | exact HB.out)⟩⟩
               ·rw [if_neg c52] at H
                have c52b0 : (t633 == 0) = false := beq_eq_false_iff_ne.mpr c52
                have c52b1 : (t633 != 0) = true := bne_iff_ne.mpr c52
                exact absurd ((Option.some.inj H).trans hr_.out) (by decide)
              ·rw [if_neg c51] at H
               have c51b0 : (t630 == 0) = false := beq_eq_false_iff_ne.mpr c51
               have c51b1 : (t630 != 0) = true := bne_iff_ne.mpr c51
               exact absurd ((Option.some.inj H).trans hr_.out) (by decide)
             ·rw [if_neg c48] at H
              exact absurd H (by simp)
            ·rw [if_neg c47] at H
             have c47b0 : decide (x20_3 < (t592.length : Int)) = false := decide_eq_false c47
             clear c47
             by_cases c58 : (t625 != x19_3) = true
             ·rw [if_pos c58] at H
              have c58b0 : (t625 != x19_3) = true := c58
              (try (have c58b1 : decide (t625 = x19_3) = false := by simpa using c58))
              (try (have c58b2 : (t625 == x19_3) = false := by simpa using c58))
              (try (have c58b3 : ¬ (t625 = x19_3) := by simpa using c58))
              clear c58
              exact absurd ((Option.some.inj H).trans hr_.out) (by decide)
             ·rw [if_neg c58] at H
              have c58b0 : (t625 != x19_3) = false := by simpa using c58
              (try (have c58b1 : decide (t625 = x19_3) = true := by simpa using c58))
              (try (have c58b2 : (t625 == x19_3) = true := by simpa using c58))
              clear c58
              replace H := Option.bind_eq_some_iff.mp H
              obtain ⟨⟨t634, t635⟩, A590, H⟩ := H
              replace H : ((rows_Minus.f t592 t595 a3).bind fun bt638 => (if a3 = true then (tacticianlaw02_RowsTogether.j3 k3 t634 t635 bt638.1 bt638.2 t617) else ((rows_Distinct.f t592).bind fun bt642 => (if bt642.2 = 0 then (tacticianlaw02_RowsTogether.j3 k3 t634 t635 bt638.1 bt638.2 bt642.1) else (some false))))) = some r := H
              have A59 := Aside0.mk A590
              clear A590
              replace H := Option.bind_eq_some_iff.mp H
              obtain ⟨⟨t638, t639⟩, A600, H⟩ := H
              replace H : (if a3 = true then (tacticianlaw02_RowsTogether.j3 k3 t634 t635 t638 t639 t617) else ((rows_Distinct.f t592).bind fun bt642 => (if bt642.2 = 0 then (tacticianlaw02_RowsTogether.j3 k3 t634 t635 t638 t639 bt642.1) else (some false)))) = some r := H
              have A60 := Aside0.mk A600
              clear A600
              have HC61 := Aside0.mk H
              clear H
              go_upto_if 154 with (first | ((with_reducible refine gate_callee (f := 15) rfl ?_); refine goesL_ (some 142) rfl rfl Tryz.func15 (by kernel_rfl) rfl #[.slice Ao10 t592.length co10, .slice Ao33 t595.length co33, .bool a3] rfl (by (try simp only [List.map_toArray, List.map_cons, List.map_nil]); first | done | rfl | (simp only [List.length_drop, List.length_take]; rfl)) ?_; (with_reducible refine (rows_Both.calls _ _ t592 _ _ t595 a3 t634 t635 _ ?side1 ?side2 ?side3 ?side4 ?side5 A59.out).mono ?_); (case side1 => repeat (first | exact (Kd.N_reads' HO_9.out).2.2 | (with_reducible refine Kd.C_alloc ?_ _) | (with_reducible refine Kd.C_drewN ?_ _) | (with_reducible refine Kd.C_drew ?_))); (case side2 => exact (Kd.N_reads' HO_9.out).2.1); (case side3 => repeat (first | exact (Kd.N_reads' HO_10.out).2.2 | (with_reducible refine Kd.C_alloc ?_ _) | (with_reducible refine Kd.C_drewN ?_ _) | (with_reducible refine Kd.C_drew ?_))); (case side4 => exact (Kd.N_reads' HO_10.out).2.1); (case side5 => exact Laid.below HLD.out (by repeat (first | (with_reducible first | exact HB.out | apply yA | apply yN | apply yD) | exact HB.out))); rintro e w62 ⟨v636, rfl, ho0, hb⟩; refine ⟨_, rfl, ?_⟩; have n0_ := Aside0.mk (Kd.N_elder' (by (with_reducible repeat (first | apply Kd.N_alloc | apply Kd.N_drewN | apply Kd.N_drew)); exact HO_9.out) (Kd.N_base (Kd.S_N ho0)) hb); have n1_ := Aside0.mk (Kd.N_elder' (by (with_reducible repeat (first | apply Kd.N_alloc | apply Kd.N_drewN | apply Kd.N_drew)); exact HO_10.out) (Kd.N_base (Kd.S_N ho0)) hb); have n2_ := Aside0.mk (Kd.N_elder' (by (with_reducible repeat (first | apply Kd.N_alloc | apply Kd.N_drewN | apply Kd.N_drew)); exact HO_13.out) (Kd.N_base (Kd.S_N ho0)) hb); have n3_ := Aside0.mk (Kd.N_lower (Kd.N_mono (ok' := fun k_ => some k_ ≠ (.slice Ao10 t592.length co10 : Value).ownBlock ∧ some k_ ≠ (.slice Ao33 t595.length co33 : Value).ownBlock ∧ some k_ ≠ (v619 : Value).ownBlock) (Kd.S_N (Kd.S_bound ho0)) (fun k_ hk_ => ⟨(Kd.fresh' (Kd.N_lt (by (with_reducible repeat (first | apply Kd.N_alloc | apply Kd.N_drewN | apply Kd.N_drew)); exact HO_9.out)) k_ hk_.2.1), (Kd.fresh' (Kd.N_lt (by (with_reducible repeat (first | apply Kd.N_alloc | apply Kd.N_drewN | apply Kd.N_drew)); exact HO_10.out)) k_ hk_.2.1), (Kd.fresh' (Kd.N_lt (by (with_reducible repeat (first | apply Kd.N_alloc | apply Kd.N_drewN | apply Kd.N_drew)); exact HO_13.out)) k_ hk_.2.1)⟩)) (below_size (by repeat (first | (with_reducible first | exact HB.out | apply yA | apply yN | apply yD) | exact HB.out)))); have n4_ := Aside0.mk (below_step (by repeat (first | (with_reducible first | exact HB.out | apply yA | apply yN | apply yD) | exact HB.out)) hb); clear HO_9; clear HO_10; clear HO_13; clear HB; have HO_9 := n0_; have HO_10 := n1_; have HO_13 := n2_; have HO637 := n3_; have HB := n4_; clear n0_ n1_ n2_ n3_ n4_; (try clear hb); (try clear hb2); (try clear hk); (try clear hi); (try clear ho0)) | ((with_reducible refine gate_callee (f := 16) rfl ?_); refine goesL_ (some 149) rfl rfl Tryz.func16 (by kernel_rfl) rfl #[.slice Ao10 t592.length co10, .slice Ao33 t595.length co33, .bool a3] rfl (by (try simp only [List.map_toArray, List.map_cons, List.map_nil]); first | done | rfl | (simp only [List.length_drop, List.length_take]; rfl)) ?_; (with_reducible refine (rows_Minus.calls _ _ t592 _ _ t595 a3 t638 t639 _ ?side1 ?side2 ?side3 ?side4 ?side5 A60.out).mono ?_); (case side1 => repeat (first | exact (Kd.N_reads' HO_9.out).2.2 | (with_reducible refine Kd.C_alloc ?_ _) | (with_reducible refine Kd.C_drewN ?_ _) | (with_reducible refine Kd.C_drew ?_))); (case side2 => exact (Kd.N_reads' HO_9.out).2.1); (case side3 => repeat (first | exact (Kd.N_reads' HO_10.out).2.2 | (with_reducible refine Kd.C_alloc ?_ _) | (with_reducible refine Kd.C_drewN ?_ _) | (with_reducible refine Kd.C_drew ?_))); (case side4 => exact (Kd.N_reads' HO_10.out).2.1); (case side5 => exact Laid.below HLD.out (by repeat (first | (with_reducible first | exact HB.out | apply yA | apply yN | apply yD) | exact HB.out))); rintro e w63 ⟨v640, rfl, ho0, hb⟩; refine ⟨_, rfl, ?_⟩; have n0_ := Aside0.mk (Kd.N_elder' (by (with_reducible repeat (first | apply Kd.N_alloc | apply Kd.N_drewN | apply Kd.N_drew)); exact HO_9.out) (Kd.N_base (Kd.S_N ho0)) hb); have n1_ := Aside0.mk (Kd.N_elder' (by (with_reducible repeat (first | apply Kd.N_alloc | apply Kd.N_drewN | apply Kd.N_drew)); exact HO_10.out) (Kd.N_base (Kd.S_N ho0)) hb); have n2_ := Aside0.mk (Kd.N_elder' (by (with_reducible repeat (first | apply Kd.N_alloc | apply Kd.N_drewN | apply Kd.N_drew)); exact HO_13.out) (Kd.N_base (Kd.S_N ho0)) hb); have n3_ := Aside0.mk (Kd.N_elder' (by (with_reducible repeat (first | apply Kd.N_alloc | apply Kd.N_drewN | apply Kd.N_drew)); exact HO637.out) (Kd.N_base (Kd.S_N ho0)) hb); have n4_ := Aside0.mk (Kd.N_lower (Kd.N_mono (ok' := fun k_ => some k_ ≠ (.slice Ao10 t592.length co10 : Value).ownBlock ∧ some k_ ≠ (.slice Ao33 t595.length co33 : Value).ownBlock ∧ some k_ ≠ (v619 : Value).ownBlock ∧ some k_ ≠ (v636 : Value).ownBlock) (Kd.S_N (Kd.S_bound ho0)) (fun k_ hk_ => ⟨(Kd.fresh' (Kd.N_lt (by (with_reducible repeat (first | apply Kd.N_alloc | apply Kd.N_drewN | apply Kd.N_drew)); exact HO_9.out)) k_ hk_.2.1), (Kd.fresh' (Kd.N_lt (by (with_reducible repeat (first | apply Kd.N_alloc | apply Kd.N_drewN | apply Kd.N_drew)); exact HO_10.out)) k_ hk_.2.1), (Kd.fresh' (Kd.N_lt (by (with_reducible repeat (first | apply Kd.N_alloc | apply Kd.N_drewN | apply Kd.N_drew)); exact HO_13.out)) k_ hk_.2.1), (Kd.fresh' (Kd.N_lt (by (with_reducible repeat (first | apply Kd.N_alloc | apply Kd.N_drewN | apply Kd.N_drew)); exact HO637.out)) k_ hk_.2.1)⟩)) (below_size (by repeat (first | (with_reducible first | exact HB.out | apply yA | apply yN | apply yD) | exact HB.out)))); have n5_ := Aside0.mk (below_step (by repeat (first | (with_reducible first | exact HB.out | apply yA | apply yN | apply yD) | exact HB.out)) hb); clear HO_9; clear HO_10; clear HO_13; clear HO637; clear HB; have HO_9 := n0_; have HO_10 := n1_; have HO_13 := n2_; have HO637 := n3_; have HO641 := n4_; have HB := n5_; clear n0_ n1_ n2_ n3_ n4_ n5_; (try clear hb); (try clear hb2); (try clear hk); (try clear hi); (try clear ho0)))
              (try simp only [Act.put, List.setIfInBounds_toArray, List.set_cons_zero, List.set_cons_succ])
              go_cut [29] (fun v29 wc => ∃ (kq : Nat) (x29_60 : List (List (S61))), Aside0 (tacticianlaw02_RowsTogether.j3 kq t634 t635 t638 t639 x29_60 = some r) ∧ Aside0 (kq ≤ k3) ∧ Aside0 (Kd.N (Kd.slice 61 k61) 40 wc w.heap.size (fun k_ => some k_ ≠ (v640 : Value).ownBlock ∧ some k_ ≠ (v29 : Value).ownBlock) v636 t634) ∧ Aside0 (Kd.N (Kd.slice 61 k61) 40 wc w.heap.size (fun k_ => some k_ ≠ (v636 : Value).ownBlock ∧ some k_ ≠ (v29 : Value).ownBlock) v640 t638) ∧ Aside0 (Kd.N (Kd.slice 61 k61) 40 wc w.heap.size (fun k_ => some k_ ≠ (v636 : Value).ownBlock ∧ some k_ ≠ (v640 : Value).ownBlock) v29 x29_60) ∧ Aside0 (Below w.heap.size w wc))
              case first => as_aux_lemma =>
               have H := HC61.out
               clear HC61
               by_cases c64 : a3 = true
               ·subst c64
                have H1 : (tacticianlaw02_RowsTogether.j3 k3 t634 t635 t638 t639 t617) = some r := by rw [if_pos rfl] at H; exact H
                clear H
                have H := H1
                clear H1
                have H' := Aside0.mk H
                clear H
                go_wp2
                go_meet
                case rel => exact ⟨_, (t617), H', ⟨by have := HJ6.out; have := HJ21.out; have := HK3.out; first | omega | exact Nat.le_refl _⟩, ⟨by (with_reducible repeat (first | apply Kd.N_alloc | apply Kd.N_drewN | apply Kd.N_drew)); exact Kd.N_mono HO637.out (fun _ hk => ⟨hk.2, hk.1.2.2⟩)⟩, ⟨by (with_reducible repeat (first | apply Kd.N_alloc | apply Kd.N_drewN | apply Kd.N_drew)); exact Kd.N_mono HO641.out (fun _ hk => ⟨hk.2.2.2, hk.2.2.1⟩)⟩, ⟨by (with_reducible repeat (first | apply Kd.N_alloc | apply Kd.N_drewN | apply Kd.N_drew)); exact Kd.N_mono HO_13.out (fun _ hk => ⟨hk.1.2, hk.2⟩)⟩, ⟨by repeat (first | (with_reducible first | exact HB.out | apply yA | apply yN | apply yD) | exact HB.out)⟩⟩
               ·replace c64 := Bool.eq_false_iff.mpr c64
                subst c64
                have H1 : ((rows_Distinct.f t592).bind fun bt642 => (if bt642.2 = 0 then (tacticianlaw02_RowsTogether.j3 k3 t634 t635 t638 t639 bt642.1) else (some false))) = some r := by rw [if_neg (show ¬ (false = true) by decide)] at H; exact H
                clear H
                have H := H1
                clear H1
                replace H := Option.bind_eq_some_iff.mp H
                obtain ⟨⟨t642, t643⟩, A650, H⟩ := H
                replace H : (if t643 = 0 then (tacticianlaw02_RowsTogether.j3 k3 t634 t635 t638 t639 t642) else (some false)) = some r := H
                have A65 := Aside0.mk A650
                clear A650
                by_cases c66 : t643 = 0
                ·rw [if_pos c66] at H
                 have c66b0 : (t643 == 0) = true := beq_iff_eq.mpr c66
                 have c66b1 : (t643 != 0) = false := bne_eq_false_iff_eq.mpr c66
                 clear c66
                 (first | rw [c66b0] | (simp only [i64_w, i32_w]; rw [c66b0]) | skip)
                 have H' := Aside0.mk H
                 clear H
                 go_wp2_with (first | ((with_reducible refine gate_callee (f := 40) rfl ?_); refine goesL_ (some 157) rfl rfl Tryz.func40 (by kernel_rfl) rfl #[.slice Ao10 t592.length co10] rfl (by (try simp only [List.map_toArray, List.map_cons, List.map_nil]); first | done | rfl | (simp only [List.length_drop, List.length_take]; rfl)) ?_; (with_reducible refine (rows_Distinct.calls _ _ t592 t642 t643 _ ?side1 ?side2 A65.out).mono ?_); (case side1 => repeat (first | exact (Kd.N_reads' HO_9.out).2.2 | (with_reducible refine Kd.C_alloc ?_ _) | (with_reducible refine Kd.C_drewN ?_ _) | (with_reducible refine Kd.C_drew ?_))); (case side2 => exact (Kd.N_reads' HO_9.out).2.1); rintro e w67 ⟨v644, rfl, ho0, hb⟩; refine ⟨_, rfl, ?_⟩; have n0_ := Aside0.mk (Kd.N_elder' (by (with_reducible repeat (first | apply Kd.N_alloc | apply Kd.N_drewN | apply Kd.N_drew)); exact HO_9.out) (Kd.N_base (Kd.S_N ho0)) hb); have n1_ := Aside0.mk (Kd.N_elder' (by (with_reducible repeat (first | apply Kd.N_alloc | apply Kd.N_drewN | apply Kd.N_drew)); exact HO_10.out) (Kd.N_base (Kd.S_N ho0)) hb); have n2_ := Aside0.mk (Kd.N_elder' (by (with_reducible repeat (first | apply Kd.N_alloc | apply Kd.N_drewN | apply Kd.N_drew)); exact HO_13.out) (Kd.N_base (Kd.S_N ho0)) hb); have n3_ := Aside0.mk (Kd.N_elder' (by (with_reducible repeat (first | apply Kd.N_alloc | apply Kd.N_drewN | apply Kd.N_drew)); exact HO637.out) (Kd.N_base (Kd.S_N ho0)) hb); have n4_ := Aside0.mk (Kd.N_elder' (by (with_reducible repeat (first | apply Kd.N_alloc | apply Kd.N_drewN | apply Kd.N_drew)); exact HO641.out) (Kd.N_base (Kd.S_N ho0)) hb); have n5_ := Aside0.mk (Kd.N_lower (Kd.N_mono (ok' := fun k_ => some k_ ≠ (.slice Ao10 t592.length co10 : Value).ownBlock ∧ some k_ ≠ (.slice Ao33 t595.length co33 : Value).ownBlock ∧ some k_ ≠ (v619 : Value).ownBlock ∧ some k_ ≠ (v636 : Value).ownBlock ∧ some k_ ≠ (v640 : Value).ownBlock) (Kd.S_N (Kd.S_bound ho0)) (fun k_ hk_ => ⟨(Kd.fresh' (Kd.N_lt (by (with_reducible repeat (first | apply Kd.N_alloc | apply Kd.N_drewN | apply Kd.N_drew)); exact HO_9.out)) k_ hk_.2.1), (Kd.fresh' (Kd.N_lt (by (with_reducible repeat (first | apply Kd.N_alloc | apply Kd.N_drewN | apply Kd.N_drew)); exact HO_10.out)) k_ hk_.2.1), (Kd.fresh' (Kd.N_lt (by (with_reducible repeat (first | apply Kd.N_alloc | apply Kd.N_drewN | apply Kd.N_drew)); exact HO_13.out)) k_ hk_.2.1), (Kd.fresh' (Kd.N_lt (by (with_reducible repeat (first | apply Kd.N_alloc | apply Kd.N_drewN | apply Kd.N_drew)); exact HO637.out)) k_ hk_.2.1), (Kd.fresh' (Kd.N_lt (by (with_reducible repeat (first | apply Kd.N_alloc | apply Kd.N_drewN | apply Kd.N_drew)); exact HO641.out)) k_ hk_.2.1)⟩)) (below_size (by repeat (first | (with_reducible first | exact HB.out | apply yA | apply yN | apply yD) | exact HB.out)))); have n6_ := Aside0.mk (below_step (by repeat (first | (with_reducible first | exact HB.out | apply yA | apply yN | apply yD) | exact HB.out)) hb); clear HO_9; clear HO_10; clear HO_13; clear HO637; clear HO641; clear HB; have HO_9 := n0_; have HO_10 := n1_; have HO_13 := n2_; have HO637 := n3_; have HO641 := n4_; have HO645 := n5_; have HB := n6_; clear n0_ n1_ n2_ n3_ n4_ n5_ n6_; (try clear hb); (try clear hb2); (try clear hk); (try clear hi); (try clear ho0)))
                 go_meet
                 case rel => exact ⟨_, (t642), H', ⟨by have := HJ6.out; have := HJ21.out; have := HK3.out; first | omega | exact Nat.le_refl _⟩, ⟨by (with_reducible repeat (first | apply Kd.N_alloc | apply Kd.N_drewN | apply Kd.N_drew)); exact Kd.N_mono HO637.out (fun _ hk => ⟨hk.1.2, hk.2⟩)⟩, ⟨by (with_reducible repeat (first | apply Kd.N_alloc | apply Kd.N_drewN | apply Kd.N_drew)); exact Kd.N_mono HO641.out (fun _ hk => ⟨hk.1.2.2.2, hk.2⟩)⟩, ⟨by (with_reducible repeat (first | apply Kd.N_alloc | apply Kd.N_drewN | apply Kd.N_drew)); exact Kd.N_mono HO645.out (fun _ hk => ⟨hk.2.2.2.1, hk.2.2.2.2⟩)⟩, ⟨by repeat (first | (with_reducible first | exact HB.out | apply yA | apply yN | apply yD) | exact HB.out)⟩⟩
                ·rw [if_neg c66] at H
                 have c66b0 : (t643 == 0) = false := beq_eq_false_iff_ne.mpr c66
                 have c66b1 : (t643 != 0) = true := bne_iff_ne.mpr c66
                 (first | rw [c66b0] | (simp only [i64_w, i32_w]; rw [c66b0]) | skip)
                 exact absurd ((Option.some.inj H).trans hr_.out) (by decide)
              case rest => as_aux_lemma =>
               clear HC61
               try clear c1
               try clear c2
               try clear p2
               try clear q2
               try clear c3
               try clear c4
               try clear c5
               try clear c6
               try clear p6
               try clear q6
               try clear hx6
               try clear c10
               try clear c11
               try clear c11b0
               try clear c11b1
               try clear c12
               try clear c12b0
               try clear c12b1
               try clear c12b2
               try clear c13
               try clear c13b0
               try clear c13b1
               try clear c14
               try clear c14b0
               try clear c14b1
               try clear c15
               try clear c16
               try clear c16b0
               try clear c17
               try clear c17b0
               try clear c18
               try clear c24
               try clear q24
               try clear q25
               try clear c28
               try clear c35
               try clear c35b0
               try clear c35b1
               try clear c36
               try clear c36b0
               try clear c36b1
               try clear c37
               try clear c37b0
               try clear c37b1
               try clear c38
               try clear c39
               try clear c40
               try clear c42
               try clear c43
               try clear c46
               try clear c47
               try clear c47b0
               try clear c48
               try clear c48b0
               try clear c51
               try clear c51b0
               try clear c51b1
               try clear c52
               try clear c52b0
               try clear c52b1
               try clear c53
               try clear c58
               try clear c58b0
               try clear c58b1
               try clear c58b2
               try clear c62
               try clear p62
               try clear q62
               try clear hx62
               try clear c63
               try clear p63
               try clear q63
               try clear hx63
               try clear c64
               try clear p64
               try clear c66
               try clear c66b0
               try clear c66b1
               try clear hx628_0
               try clear hx631_0
               try clear p2
               try clear p6
               try clear p628
               try clear p631
               try clear q024
               try clear q2
               try clear q24
               try clear q25
               try clear q628
               try clear q631
               obtain ⟨kq, x29_60, HA, HJ60, HO_25, HO_27, HO_29, HB⟩ := hcut
               cases kq with
               | zero => exact absurd HA.out (by simp [tacticianlaw02_RowsTogether.j3])
               | succ kj60 =>
                have H := HA.out
                clear HA
                simp only [tacticianlaw02_RowsTogether.j3] at H
                have HC68 := Aside0.mk H
                clear H
                go_upto_region 30 with (fail)
                go_cut [178] (fun v178 wc => ∃ (kq : Nat) (x178_67 : Bool), v178 = .bool x178_67 ∧ Aside0 (tacticianlaw02_RowsTogether.j4 kq t634 t638 x29_60 x178_67 = some r) ∧ Aside0 (kq ≤ kj60) ∧ Aside0 (Kd.N (Kd.slice 61 k61) 40 wc w.heap.size (fun k_ => some k_ ≠ (v640 : Value).ownBlock ∧ some k_ ≠ (u29 : Value).ownBlock) v636 t634) ∧ Aside0 (Kd.N (Kd.slice 61 k61) 40 wc w.heap.size (fun k_ => some k_ ≠ (v636 : Value).ownBlock ∧ some k_ ≠ (u29 : Value).ownBlock) v640 t638) ∧ Aside0 (Kd.N (Kd.slice 61 k61) 40 wc w.heap.size (fun k_ => some k_ ≠ (v636 : Value).ownBlock ∧ some k_ ≠ (v640 : Value).ownBlock) u29 x29_60) ∧ Aside0 (Below w.heap.size w wc))
                case first => as_aux_lemma =>
                 have H := HC68.out
                 clear HC68
                 by_cases c69 : t635 = 0
                 ·rw [if_pos c69] at H
                  have c69b0 : (t635 == 0) = true := beq_iff_eq.mpr c69
                  have c69b1 : (t635 != 0) = false := bne_eq_false_iff_eq.mpr c69
                  clear c69
                  (first | rw [c69b0] | (simp only [i64_w, i32_w]; rw [c69b0]) | skip)
                  by_cases c70 : t639 = 0
                  ·rw [if_pos c70] at H
                   have c70b0 : (t639 == 0) = true := beq_iff_eq.mpr c70
                   have c70b1 : (t639 != 0) = false := bne_eq_false_iff_eq.mpr c70
                   clear c70
                   have H' := Aside0.mk H
                   clear H
                   obtain ⟨Ao71, co71, eo71⟩ := Kd.N_slice HO_25.out
                   subst eo71
                   obtain ⟨Ao72, co72, eo72⟩ := Kd.N_slice HO_27.out
                   subst eo72
                   obtain ⟨Ao73, co73, eo73⟩ := Kd.N_slice HO_29.out
                   subst eo73
                   go_wp2
                   go_meet
                   case rel => exact ⟨_, (((wrap64 ((t634.length : Int) + (t638.length : Int))) != (x29_60.length : Int))), (by first | rfl | (simp; done) | (simp [*]; done)), H', ⟨by have := HJ6.out; have := HJ21.out; have := HK3.out; have := HJ60.out; first | omega | exact Nat.le_refl _⟩, ⟨by (with_reducible repeat (first | apply Kd.N_alloc | apply Kd.N_drewN | apply Kd.N_drew)); exact HO_25.out⟩, ⟨by (with_reducible repeat (first | apply Kd.N_alloc | apply Kd.N_drewN | apply Kd.N_drew)); exact HO_27.out⟩, ⟨by (with_reducible repeat (first | apply Kd.N_alloc | apply Kd.N_drewN | apply Kd.N_drew)); exact HO_29.out⟩, ⟨by repeat (first | (with_reducible first | exact HB.out | apply yA | apply yN | apply yD) | exact HB.out)⟩⟩
                  ·rw [if_neg c70] at H
                   have c70b0 : (t639 == 0) = false := beq_eq_false_iff_ne.mpr c70
                   have c70b1 : (t639 != 0) = true := bne_iff_ne.mpr c70
                   have H' := Aside0.mk H
                   clear H
                   go_wp2
                   go_meet
                   case rel => exact ⟨_, (true), (by first | rfl | (simp; done) | (simp [*]; done)), H', ⟨by have := HJ6.out; have := HJ21.out; have := HK3.out; have := HJ60.out; first | omega | exact Nat.le_refl _⟩, ⟨by (with_reducible repeat (first | apply Kd.N_alloc | apply Kd.N_drewN | apply Kd.N_drew)); exact HO_25.out⟩, ⟨by (with_reducible repeat (first | apply Kd.N_alloc | apply Kd.N_drewN | apply Kd.N_drew)); exact HO_27.out⟩, ⟨by (with_reducible repeat (first | apply Kd.N_alloc | apply Kd.N_drewN | apply Kd.N_drew)); exact HO_29.out⟩, ⟨by repeat (first | (with_reducible first | exact HB.out | apply yA | apply yN | apply yD) | exact HB.out)⟩⟩
                 ·rw [if_neg c69] at H
                  have c69b0 : (t635 == 0) = false := beq_eq_false_iff_ne.mpr c69
                  have c69b1 : (t635 != 0) = true := bne_iff_ne.mpr c69
                  (first | rw [c69b0] | (simp only [i64_w, i32_w]; rw [c69b0]) | skip)
                  have H' := Aside0.mk H
                  clear H
                  go_wp2
                  go_meet
                  case rel => exact ⟨_, (true), (by first | rfl | (simp; done) | (simp [*]; done)), H', ⟨by have := HJ6.out; have := HJ21.out; have := HK3.out; have := HJ60.out; first | omega | exact Nat.le_refl _⟩, ⟨by (with_reducible repeat (first | apply Kd.N_alloc | apply Kd.N_drewN | apply Kd.N_drew)); exact HO_25.out⟩, ⟨by (with_reducible repeat (first | apply Kd.N_alloc | apply Kd.N_drewN | apply Kd.N_drew)); exact HO_27.out⟩, ⟨by (with_reducible repeat (first | apply Kd.N_alloc | apply Kd.N_drewN | apply Kd.N_drew)); exact HO_29.out⟩, ⟨by repeat (first | (with_reducible first | exact HB.out | apply yA | apply yN | apply yD) | exact HB.out)⟩⟩
                case rest => as_aux_lemma =>
                 clear HC68
                 try clear c1
                 try clear c2
                 try clear p2
                 try clear q2
                 try clear c3
                 try clear c4
                 try clear c5
                 try clear c6
                 try clear p6
                 try clear q6
                 try clear hx6
                 try clear c7
                 try clear c10
                 try clear c11
                 try clear c11b0
                 try clear c11b1
                 try clear c12
                 try clear c12b0
                 try clear c12b1
                 try clear c12b2
                 try clear c13
                 try clear c13b0
                 try clear c13b1
                 try clear c14
                 try clear c14b0
                 try clear c14b1
                 try clear c15
                 try clear c16
                 try clear c16b0
                 try clear c17
                 try clear c17b0
                 try clear c18
                 try clear c24
                 try clear q24
                 try clear q25
                 try clear c28
                 try clear c35
                 try clear c35b0
                 try clear c35b1
                 try clear c36
                 try clear c36b0
                 try clear c36b1
                 try clear c37
                 try clear c37b0
                 try clear c37b1
                 try clear c38
                 try clear c39
                 try clear c40
                 try clear c42
                 try clear c43
                 try clear c46
                 try clear c47
                 try clear c47b0
                 try clear c48
                 try clear c48b0
                 try clear c51
                 try clear c51b0
                 try clear c51b1
                 try clear c52
                 try clear c52b0
                 try clear c52b1
                 try clear c53
                 try clear c58
                 try clear c58b0
                 try clear c58b1
                 try clear c58b2
                 try clear c62
                 try clear p62
                 try clear q62
                 try clear hx62
                 try clear c63
                 try clear p63
                 try clear q63
                 try clear hx63
                 try clear c64
                 try clear p64
                 try clear c66
                 try clear c66b0
                 try clear c66b1
                 try clear c69
                 try clear c69b0
                 try clear c69b1
                 try clear c70
                 try clear c70b0
                 try clear c70b1
                 try clear hx628_0
                 try clear hx631_0
                 try clear p2
                 try clear p6
                 try clear p62
                 try clear p628
                 try clear p63
                 try clear p631
                 try clear p64
                 try clear q024
                 try clear q2
                 try clear q24
                 try clear q25
                 try clear q6
                 try clear q62
                 try clear q628
                 try clear q63
                 try clear q631
                 obtain ⟨kq, x178_67, rfl, HA, HJ67, HO_25, HO_27, HO_29, HB⟩ := hcut
                 cases kq with
                 | zero => exact absurd HA.out (by simp [tacticianlaw02_RowsTogether.j4])
                 | succ kj67 =>
                  have H := HA.out
                  clear HA
                  simp only [tacticianlaw02_RowsTogether.j4] at H
                  by_cases c74 : x178_67 = true
                  ·subst c74
                   have H1 : (some false) = some r := by rw [if_pos rfl] at H; exact H
                   clear H
                   have H := H1
                   clear H1
                   exact absurd ((Option.some.inj H).trans hr_.out) (by decide)
                  ·replace c74 := Bool.eq_false_iff.mpr c74
                   subst c74
                   have H1 : ((some (([] : List (List (S61))) : List (List (S61)))).bind fun y646 => (if y646.length + t634.length < 5864062014805 then ((some (y646 ++ t634 : List (List (S61)))).bind fun y649 => (if y649.length + t638.length < 5864062014805 then ((rows_Canonical.f (y649 ++ t638)).bind fun bt655 => (if bt655.2 = 0 then ((tacticianref02_Equal.f kj67 bt655.1 x29_60).bind fun t659 => (if t659 = true then ((tacticianlaw02_awake.f).bind fun t660 => (some t660)) else (some false))) else (some false))) else (none))) else (none))) = some r := by rw [if_neg (show ¬ (false = true) by decide)] at H; exact H
                   clear H
                   have H := H1
                   clear H1
                   obtain ⟨y646, hy646⟩ : ∃ y_ : List (List (S61)), y_ = (([] : List (List (S61)))) := ⟨_, rfl⟩
                   replace H : (if y646.length + t634.length < 5864062014805 then ((some (y646 ++ t634 : List (List (S61)))).bind fun y649 => (if y649.length + t638.length < 5864062014805 then ((rows_Canonical.f (y649 ++ t638)).bind fun bt655 => (if bt655.2 = 0 then ((tacticianref02_Equal.f kj67 bt655.1 x29_60).bind fun t659 => (if t659 = true then ((tacticianlaw02_awake.f).bind fun t660 => (some t660)) else (some false))) else (some false))) else (none))) else (none)) = some r := by first | (rw [hy646]; with_reducible exact H) | (have H2_ := (Option.bind_some _ _).symm.trans H; rw [hy646]; with_reducible exact H2_) | (have H2_ := (Option.bind_some _ _).symm.trans H; with_reducible exact H2_) | with_reducible exact H | (rw [hy646]; exact H) | exact H
                   have Ny646 := Aside0.mk hy646
                   clear hy646
                   by_cases c75 : y646.length + t634.length < 5864062014805
                   ·rw [if_pos c75] at H
                    have LMc75 := Aside0.mk c75
                    clear c75
                    obtain ⟨y649, hy649⟩ : ∃ y_ : List (List (S61)), y_ = (y646 ++ t634) := ⟨_, rfl⟩
                    replace H : (if y649.length + t638.length < 5864062014805 then ((rows_Canonical.f (y649 ++ t638)).bind fun bt655 => (if bt655.2 = 0 then ((tacticianref02_Equal.f kj67 bt655.1 x29_60).bind fun t659 => (if t659 = true then ((tacticianlaw02_awake.f).bind fun t660 => (some t660)) else (some false))) else (some false))) else (none)) = some r := by first | (rw [hy649]; with_reducible exact H) | (have H2_ := (Option.bind_some _ _).symm.trans H; rw [hy649]; with_reducible exact H2_) | (have H2_ := (Option.bind_some _ _).symm.trans H; with_reducible exact H2_) | with_reducible exact H | (rw [hy649]; exact H) | exact H
                    have Ny649 := Aside0.mk hy649
                    clear hy649
                    by_cases c76 : y649.length + t638.length < 5864062014805
                    ·rw [if_pos c76] at H
                     have LMc76 := Aside0.mk c76
                     clear c76
                     obtain ⟨y652, hy652⟩ : ∃ y_ : List (List (S61)), y_ = (y649 ++ t638) := ⟨_, rfl⟩
                     replace H : ((rows_Canonical.f y652).bind fun bt655 => (if bt655.2 = 0 then ((tacticianref02_Equal.f kj67 bt655.1 x29_60).bind fun t659 => (if t659 = true then ((tacticianlaw02_awake.f).bind fun t660 => (some t660)) else (some false))) else (some false))) = some r := by first | (rw [hy652]; with_reducible exact H) | (have H2_ := (Option.bind_some _ _).symm.trans H; rw [hy652]; with_reducible exact H2_) | (have H2_ := (Option.bind_some _ _).symm.trans H; with_reducible exact H2_) | with_reducible exact H | (rw [hy652]; exact H) | exact H
                     have Ny652 := Aside0.mk hy652
                     clear hy652
                     replace H := Option.bind_eq_some_iff.mp H
                     obtain ⟨⟨t655, t656⟩, A770, H⟩ := H
                     replace H : (if t656 = 0 then ((tacticianref02_Equal.f kj67 t655 x29_60).bind fun t659 => (if t659 = true then ((tacticianlaw02_awake.f).bind fun t660 => (some t660)) else (some false))) else (some false)) = some r := H
                     have A77 := Aside0.mk A770
                     clear A770
                     by_cases c78 : t656 = 0
                     ·rw [if_pos c78] at H
                      have c78b0 : (t656 == 0) = true := beq_iff_eq.mpr c78
                      have c78b1 : (t656 != 0) = false := bne_eq_false_iff_eq.mpr c78
                      clear c78
                      replace H := Option.bind_eq_some_iff.mp H
                      obtain ⟨t659, A790, H⟩ := H
                      replace H : (if t659 = true then ((tacticianlaw02_awake.f).bind fun t660 => (some t660)) else (some false)) = some r := H
                      have A79 := Aside0.mk A790
                      clear A790
                      by_cases c80 : t659 = true
                      ·subst c80
                       have H1 : ((tacticianlaw02_awake.f).bind fun t660 => (some t660)) = some r := by rw [if_pos rfl] at H; exact H
                       clear H
                       have H := H1
                       clear H1
                       replace H := Option.bind_eq_some_iff.mp H
                       obtain ⟨t660, A810, H⟩ := H
                       replace H : (some t660) = some r := H
                       have A81 := Aside0.mk A810
                       clear A810
                       obtain rfl := Option.some.inj H
                       go_wp2_with (first | ((with_reducible refine gate_dst (N := 180) rfl ?_); (try (refine gate_guard (by rfl) ?_; dsimp only)); refine Kd.N_lit (Kd.slice 61 k61) _ 40 ?hg (N' := 180) ?hd (xs := ([] : List (List (S61)))) (inner := []) (ok := (fun k_ => some k_ ≠ (v636 : Value).ownBlock ∧ some k_ ≠ (v640 : Value).ownBlock ∧ some k_ ≠ (u29 : Value).ownBlock)) (okp := (fun k_ => some k_ ≠ (v636 : Value).ownBlock ∧ some k_ ≠ (v640 : Value).ownBlock ∧ some k_ ≠ (u29 : Value).ownBlock)) ?hr ?hp (fun _ hk => hk) ((show ∀ k_, wc.heap.size ≤ k_ → (fun k_ => some k_ ≠ (v636 : Value).ownBlock ∧ some k_ ≠ (v640 : Value).ownBlock ∧ some k_ ≠ (u29 : Value).ownBlock) k_ from fun k_ hk => ⟨Kd.fresh' (Kd.N_lt (by (with_reducible repeat (first | apply Kd.N_alloc | apply Kd.N_drewN | apply Kd.N_drew)); exact HO_25.out)) k_ hk, Kd.fresh' (Kd.N_lt (by (with_reducible repeat (first | apply Kd.N_alloc | apply Kd.N_drewN | apply Kd.N_drew)); exact HO_27.out)) k_ hk, Kd.fresh' (Kd.N_lt (by (with_reducible repeat (first | apply Kd.N_alloc | apply Kd.N_drewN | apply Kd.N_drew)); exact HO_29.out)) k_ hk⟩) _ (Nat.le_refl _)) (Below.refl _ _) (Nat.le_refl _) (by simp) ?_; (case hd => rfl); (case hg => rfl); (case hr => first | (go_simp; done) | (go_simp; rfl)); (case hp => exact (Reps.none _ _)); intro v647 w82 ho83 hb hg_ hnew_; clear hg_ hnew_; (first | rw [← Ny646.out] at ho83 | (simp only [Int.reduceToNat] at ho83; rw [← Ny646.out] at ho83)); have n0_ := Aside0.mk (Kd.N_elder' (by (with_reducible repeat (first | apply Kd.N_alloc | apply Kd.N_drewN | apply Kd.N_drew)); exact HO_25.out) (Kd.N_base ho83) hb); have n1_ := Aside0.mk (Kd.N_elder' (by (with_reducible repeat (first | apply Kd.N_alloc | apply Kd.N_drewN | apply Kd.N_drew)); exact HO_27.out) (Kd.N_base ho83) hb); have n2_ := Aside0.mk (Kd.N_elder' (by (with_reducible repeat (first | apply Kd.N_alloc | apply Kd.N_drewN | apply Kd.N_drew)); exact HO_29.out) (Kd.N_base ho83) hb); have n3_ := Aside0.mk (Kd.N_lower ho83 (below_size (by repeat (first | (with_reducible first | exact HB.out | apply yA | apply yN | apply yD) | exact HB.out)))); have n4_ := Aside0.mk (below_step (by repeat (first | (with_reducible first | exact HB.out | apply yA | apply yN | apply yD) | exact HB.out)) hb); clear HO_25; clear HO_27; clear HO_29; clear HB; have HO_25 := n0_; have HO_27 := n1_; have HO_29 := n2_; have HO648 := n3_; have HB := n4_; clear n0_ n1_ n2_ n3_ n4_; clear hb ho83; obtain ⟨Ao85, co85, eo85⟩ := Kd.N_slice HO_25.out; subst eo85) | ((with_reducible refine gate_builtin (b := .append) (xs := #[.tmp 180, .tmp 181]) rfl ?_); (try (refine gate_guard (by rfl) ?_; dsimp only)); at_builtin; refine Kd.N_append_rows (Kd.slice 61 k61) (w0 := w) w.heap.size rfl (.tmp 180) (.tmp 181) 22 40 (.slice none 0 0) 24 rfl Tryz.underlying22 info40 rfl (by decide) (by omega) v647 y646 t634 _ _ _ (fun k_ => some k_ ≠ (v640 : Value).ownBlock ∧ some k_ ≠ (u29 : Value).ownBlock) (fun k_ => ((fun k_ => some k_ ≠ (v640 : Value).ownBlock ∧ some k_ ≠ (u29 : Value).ownBlock)) k_ ∧ some k_ ≠ (v647 : Value).ownBlock) rfl rfl ?aO ?aR (fun _ hk => hk) ?aF ?aB ?aS ?aL ?_; (case aR => exact (by skip; exact Kd.N_F (Kd.N_mono (ok' := (fun k_ => ((fun k_ => some k_ ≠ (v640 : Value).ownBlock ∧ some k_ ≠ (u29 : Value).ownBlock)) k_ ∧ some k_ ≠ (v647 : Value).ownBlock)) (HO_25.out) (fun k_ hk => ⟨⟨hk.1.1, hk.1.2⟩, hk.2⟩)))); (case aB => exact (by repeat (first | (with_reducible first | exact HB.out | apply yA | apply yN | apply yD) | exact HB.out))); (case aF => exact (fun k_ hk => ⟨Kd.fresh' (Kd.N_lt (by (with_reducible repeat (first | apply Kd.N_alloc | apply Kd.N_drewN | apply Kd.N_drew)); exact HO_27.out)) k_ hk, Kd.fresh' (Kd.N_lt (by (with_reducible repeat (first | apply Kd.N_alloc | apply Kd.N_drewN | apply Kd.N_drew)); exact HO_29.out)) k_ hk⟩)); (case aO => exact (by (with_reducible repeat (first | apply Kd.N_alloc | apply Kd.N_drewN | apply Kd.N_drew)); exact Kd.N_mono HO648.out (fun _ hk => ⟨hk.2.1, hk.2.2⟩))); (case aS => exact (below_size (by repeat (first | (with_reducible first | exact HB.out | apply yA | apply yN | apply yD) | exact HB.out)))); (case aL => have := LMc75.out; omega); intro v650 w84 ho hb hg hat; rw [← Ny649.out] at ho; have n0_ := Aside0.mk (Kd.N_afterv (ok := (fun k_ => some k_ ≠ (v640 : Value).ownBlock ∧ some k_ ≠ (u29 : Value).ownBlock)) (by (with_reducible repeat (first | apply Kd.N_alloc | apply Kd.N_drewN | apply Kd.N_drew)); exact HO_25.out) hg hat); have n1_ := Aside0.mk (Kd.N_afterv (ok := (fun k_ => some k_ ≠ (.slice Ao85 t634.length co85 : Value).ownBlock ∧ some k_ ≠ (u29 : Value).ownBlock)) (by (with_reducible repeat (first | apply Kd.N_alloc | apply Kd.N_drewN | apply Kd.N_drew)); exact HO_27.out) hg hat); have n2_ := Aside0.mk (Kd.N_afterv (ok := (fun k_ => some k_ ≠ (.slice Ao85 t634.length co85 : Value).ownBlock ∧ some k_ ≠ (v640 : Value).ownBlock)) (by (with_reducible repeat (first | apply Kd.N_alloc | apply Kd.N_drewN | apply Kd.N_drew)); exact HO_29.out) hg hat); have n3_ := Aside0.mk (hb); have n4_ := Aside0.mk (ho); clear HO_25; clear HO_27; clear HO_29; clear HB; clear HO648; have HO_25 := n0_; have HO_27 := n1_; have HO_29 := n2_; have HB := n3_; have HO651 := n4_; clear n0_ n1_ n2_ n3_ n4_; clear ho hb hg hat; obtain ⟨Ao87, co87, eo87⟩ := Kd.N_slice HO_27.out; subst eo87) | ((with_reducible refine gate_builtin (b := .append) (xs := #[.tmp 182, .tmp 183]) rfl ?_); (try (refine gate_guard (by rfl) ?_; dsimp only)); at_builtin; refine Kd.N_append_rows (Kd.slice 61 k61) (w0 := w) w.heap.size rfl (.tmp 182) (.tmp 183) 22 40 (.slice none 0 0) 24 rfl Tryz.underlying22 info40 rfl (by decide) (by omega) v650 y649 t638 _ _ _ (fun k_ => some k_ ≠ (u29 : Value).ownBlock) (fun k_ => ((fun k_ => some k_ ≠ (u29 : Value).ownBlock)) k_ ∧ some k_ ≠ (v650 : Value).ownBlock) rfl rfl ?aO ?aR (fun _ hk => hk) ?aF ?aB ?aS ?aL ?_; (case aR => exact (by skip; exact Kd.N_F (Kd.N_mono (ok' := (fun k_ => ((fun k_ => some k_ ≠ (u29 : Value).ownBlock)) k_ ∧ some k_ ≠ (v650 : Value).ownBlock)) (HO_27.out) (fun k_ hk => ⟨hk.1.2, hk.2⟩)))); (case aB => exact (by repeat (first | (with_reducible first | exact HB.out | apply yA | apply yN | apply yD) | exact HB.out))); (case aF => exact (fun k_ hk => Kd.fresh' (Kd.N_lt (by (with_reducible repeat (first | apply Kd.N_alloc | apply Kd.N_drewN | apply Kd.N_drew)); exact HO_29.out)) k_ hk)); (case aO => exact (by (with_reducible repeat (first | apply Kd.N_alloc | apply Kd.N_drewN | apply Kd.N_drew)); exact Kd.N_mono HO651.out (fun _ hk => hk.2))); (case aS => exact (below_size (by repeat (first | (with_reducible first | exact HB.out | apply yA | apply yN | apply yD) | exact HB.out)))); (case aL => have := LMc76.out; omega); intro v653 w86 ho hb hg hat; rw [← Ny652.out] at ho; have n0_ := Aside0.mk (Kd.N_afterv (ok := (fun k_ => some k_ ≠ (.slice Ao87 t638.length co87 : Value).ownBlock ∧ some k_ ≠ (u29 : Value).ownBlock)) (by (with_reducible repeat (first | apply Kd.N_alloc | apply Kd.N_drewN | apply Kd.N_drew)); exact HO_25.out) hg hat); have n1_ := Aside0.mk (Kd.N_afterv (ok := (fun k_ => some k_ ≠ (.slice Ao85 t634.length co85 : Value).ownBlock ∧ some k_ ≠ (u29 : Value).ownBlock)) (by (with_reducible repeat (first | apply Kd.N_alloc | apply Kd.N_drewN | apply Kd.N_drew)); exact HO_27.out) hg hat); have n2_ := Aside0.mk (Kd.N_afterv (ok := (fun k_ => some k_ ≠ (.slice Ao85 t634.length co85 : Value).ownBlock ∧ some k_ ≠ (.slice Ao87 t638.length co87 : Value).ownBlock)) (by (with_reducible repeat (first | apply Kd.N_alloc | apply Kd.N_drewN | apply Kd.N_drew)); exact HO_29.out) hg hat); have n3_ := Aside0.mk (hb); have n4_ := Aside0.mk (ho); clear HO_25; clear HO_27; clear HO_29; clear HB; clear HO651; have HO_25 := n0_; have HO_27 := n1_; have HO_29 := n2_; have HB := n3_; have HO654 := n4_; clear n0_ n1_ n2_ n3_ n4_; clear ho hb hg hat; obtain ⟨Ao88, co88, eo88⟩ := Kd.N_slice HO654.out; subst eo88) | ((with_reducible refine gate_callee (f := 28) rfl ?_); refine goesL_ (some 185) rfl rfl Tryz.func28 (by kernel_rfl) rfl #[.slice Ao88 y652.length co88] rfl (by (try simp only [List.map_toArray, List.map_cons, List.map_nil]); first | done | rfl | (simp only [List.length_drop, List.length_take]; rfl)) ?_; (with_reducible refine (rows_Canonical.calls _ _ y652 t655 t656 _ ?side1 ?side2 A77.out).mono ?_); (case side1 => repeat (first | exact (Kd.N_reads' HO654.out).2.2 | (with_reducible refine Kd.C_alloc ?_ _) | (with_reducible refine Kd.C_drewN ?_ _) | (with_reducible refine Kd.C_drew ?_))); (case side2 => exact (Kd.N_reads' HO654.out).2.1); rintro e w89 ⟨v657, rfl, ho0, hb⟩; refine ⟨_, rfl, ?_⟩; have n0_ := Aside0.mk (Kd.N_elder' (by (with_reducible repeat (first | apply Kd.N_alloc | apply Kd.N_drewN | apply Kd.N_drew)); exact HO_25.out) (Kd.N_base (Kd.S_N ho0)) hb); have n1_ := Aside0.mk (Kd.N_elder' (by (with_reducible repeat (first | apply Kd.N_alloc | apply Kd.N_drewN | apply Kd.N_drew)); exact HO_27.out) (Kd.N_base (Kd.S_N ho0)) hb); have n2_ := Aside0.mk (Kd.N_elder' (by (with_reducible repeat (first | apply Kd.N_alloc | apply Kd.N_drewN | apply Kd.N_drew)); exact HO_29.out) (Kd.N_base (Kd.S_N ho0)) hb); have n3_ := Aside0.mk (Kd.N_elder' (by (with_reducible repeat (first | apply Kd.N_alloc | apply Kd.N_drewN | apply Kd.N_drew)); exact HO654.out) (Kd.N_base (Kd.S_N ho0)) hb); have n4_ := Aside0.mk (Kd.N_lower (Kd.N_mono (ok' := fun k_ => some k_ ≠ (.slice Ao85 t634.length co85 : Value).ownBlock ∧ some k_ ≠ (.slice Ao87 t638.length co87 : Value).ownBlock ∧ some k_ ≠ (u29 : Value).ownBlock ∧ some k_ ≠ (.slice Ao88 y652.length co88 : Value).ownBlock) (Kd.S_N (Kd.S_bound ho0)) (fun k_ hk_ => ⟨(Kd.fresh' (Kd.N_lt (by (with_reducible repeat (first | apply Kd.N_alloc | apply Kd.N_drewN | apply Kd.N_drew)); exact HO_25.out)) k_ hk_.2.1), (Kd.fresh' (Kd.N_lt (by (with_reducible repeat (first | apply Kd.N_alloc | apply Kd.N_drewN | apply Kd.N_drew)); exact HO_27.out)) k_ hk_.2.1), (Kd.fresh' (Kd.N_lt (by (with_reducible repeat (first | apply Kd.N_alloc | apply Kd.N_drewN | apply Kd.N_drew)); exact HO_29.out)) k_ hk_.2.1), (Kd.fresh' (Kd.N_lt (by (with_reducible repeat (first | apply Kd.N_alloc | apply Kd.N_drewN | apply Kd.N_drew)); exact HO654.out)) k_ hk_.2.1)⟩)) (below_size (by repeat (first | (with_reducible first | exact HB.out | apply yA | apply yN | apply yD) | exact HB.out)))); have n5_ := Aside0.mk (below_step (by repeat (first | (with_reducible first | exact HB.out | apply yA | apply yN | apply yD) | exact HB.out)) hb); clear HO_25; clear HO_27; clear HO_29; clear HO654; clear HB; have HO_25 := n0_; have HO_27 := n1_; have HO_29 := n2_; have HO654 := n3_; have HO658 := n4_; have HB := n5_; clear n0_ n1_ n2_ n3_ n4_ n5_; (try clear hb); (try clear hb2); (try clear hk); (try clear hi); (try clear ho0); obtain ⟨Ao90, co90, eo90⟩ := Kd.N_slice HO658.out; subst eo90; obtain ⟨Ao91, co91, eo91⟩ := Kd.N_slice HO_29.out; subst eo91) | (go_at_call 19; (with_reducible refine (tacticianref02_Equal.calls kj67 _ _ t655 _ _ x29_60 true _ ?side1 ?side2 ?side3 ?side4 A79.out).mono ?_); (case side1 => repeat (first | exact (Kd.N_reads' HO658.out).2.2 | (with_reducible refine Kd.C_alloc ?_ _) | (with_reducible refine Kd.C_drewN ?_ _) | (with_reducible refine Kd.C_drew ?_))); (case side2 => exact (Kd.N_reads' HO658.out).2.1); (case side3 => repeat (first | exact (Kd.N_reads' HO_29.out).2.2 | (with_reducible refine Kd.C_alloc ?_ _) | (with_reducible refine Kd.C_drewN ?_ _) | (with_reducible refine Kd.C_drew ?_))); (case side4 => exact (Kd.N_reads' HO_29.out).2.1); rintro e w92 ⟨rfl, hb⟩; have n0_ := Aside0.mk (Kd.N_below (by (with_reducible repeat (first | apply Kd.N_alloc | apply Kd.N_drewN | apply Kd.N_drew)); exact HO_25.out) hb); have n1_ := Aside0.mk (Kd.N_below (by (with_reducible repeat (first | apply Kd.N_alloc | apply Kd.N_drewN | apply Kd.N_drew)); exact HO_27.out) hb); have n2_ := Aside0.mk (Kd.N_below (by (with_reducible repeat (first | apply Kd.N_alloc | apply Kd.N_drewN | apply Kd.N_drew)); exact HO_29.out) hb); have n3_ := Aside0.mk (Kd.N_below (by (with_reducible repeat (first | apply Kd.N_alloc | apply Kd.N_drewN | apply Kd.N_drew)); exact HO654.out) hb); have n4_ := Aside0.mk (Kd.N_below (by (with_reducible repeat (first | apply Kd.N_alloc | apply Kd.N_drewN | apply Kd.N_drew)); exact HO658.out) hb); have n5_ := Aside0.mk (below_step (by repeat (first | (with_reducible first | exact HB.out | apply yA | apply yN | apply yD) | exact HB.out)) hb); clear HO_25; clear HO_27; clear HO_29; clear HO654; clear HO658; clear HB; have HO_25 := n0_; have HO_27 := n1_; have HO_29 := n2_; have HO654 := n3_; have HO658 := n4_; have HB := n5_; clear n0_ n1_ n2_ n3_ n4_ n5_; (try clear hb); (try clear hb2); (try clear hk); (try clear hi)) | (go_at_call 18; (with_reducible refine (tacticianlaw02_awake.calls  t660 _ ?side1 A81.out).mono ?_); (case side1 => exact Laid.below HLD.out (by repeat (first | (with_reducible first | exact HB.out | apply yA | apply yN | apply yD) | exact HB.out))); rintro e w93 ⟨rfl, hb⟩; have n0_ := Aside0.mk (Kd.N_below (by (with_reducible repeat (first | apply Kd.N_alloc | apply Kd.N_drewN | apply Kd.N_drew)); exact HO_25.out) hb); have n1_ := Aside0.mk (Kd.N_below (by (with_reducible repeat (first | apply Kd.N_alloc | apply Kd.N_drewN | apply Kd.N_drew)); exact HO_27.out) hb); have n2_ := Aside0.mk (Kd.N_below (by (with_reducible repeat (first | apply Kd.N_alloc | apply Kd.N_drewN | apply Kd.N_drew)); exact HO_29.out) hb); have n3_ := Aside0.mk (Kd.N_below (by (with_reducible repeat (first | apply Kd.N_alloc | apply Kd.N_drewN | apply Kd.N_drew)); exact HO654.out) hb); have n4_ := Aside0.mk (Kd.N_below (by (with_reducible repeat (first | apply Kd.N_alloc | apply Kd.N_drewN | apply Kd.N_drew)); exact HO658.out) hb); have n5_ := Aside0.mk (below_step (by repeat (first | (with_reducible first | exact HB.out | apply yA | apply yN | apply yD) | exact HB.out)) hb); clear HO_25; clear HO_27; clear HO_29; clear HO654; clear HO658; clear HB; have HO_25 := n0_; have HO_27 := n1_; have HO_29 := n2_; have HO654 := n3_; have HO658 := n4_; have HB := n5_; clear n0_ n1_ n2_ n3_ n4_ n5_; (try clear hb); (try clear hb2); (try clear hk); (try clear hi)))
                       go_ret
                       exact ⟨by first | rfl | (simp [errW_none, errW_some] <;> rfl) | (simp [*, errW_none, errW_some] <;> rfl), by repeat (first | (with_reducible first | exact HB.out | apply yA | apply yN | apply yD) | exact HB.out)⟩
                      ·replace c80 := Bool.eq_false_iff.mpr c80
                       subst c80
                       have H1 : (some false) = some r := by rw [if_neg (show ¬ (false = true) by decide)] at H; exact H
                       clear H
                       have H := H1
                       clear H1
                       exact absurd ((Option.some.inj H).trans hr_.out) (by decide)
                     ·rw [if_neg c78] at H
                      have c78b0 : (t656 == 0) = false := beq_eq_false_iff_ne.mpr c78
                      have c78b1 : (t656 != 0) = true := bne_iff_ne.mpr c78
                      exact absurd ((Option.some.inj H).trans hr_.out) (by decide)
                    ·rw [if_neg c76] at H
                     exact absurd H (by simp)
                   ·rw [if_neg c75] at H
                    exact absurd H (by simp)
      ·rw [if_neg c18] at H
       exact absurd H (by simp)
     ·rw [if_neg c15] at H
      exact absurd H (by simp)
    ·rw [if_neg c14] at H
     exact absurd H (by simp)
   ·rw [if_neg c13] at H
    exact absurd H (by simp)
end Go.Proofs.YtmhobbdedmjmnaaGreatDoor.Q
end
section
/- What the law RowsTogether computes answers as it says, in plain words: no program in sight. -/
namespace Go.Proofs.YtmhobbdedmjmnaaGreatDoor
open Go.RowKit Go.Proofs.YtmhobbdedmjmnaaGreatDoor.Q Go.Proofs.YtmhobbdedmjmnaaGreatDoorW.PrintWords Go.Proofs.YtmhobbdedmjmnaaGreatDoorW.PrintLast Go.Proofs.YtmhobbdedmjmnaaGreatDoorW.PrintMore
set_option linter.unusedSimpArgs false
theorem bothF {a b : List (List V)} (ha : GoodR a) (hb : GoodR b) (all : Bool) : rows_Both.f a b all = some (rep (nBoth a b all) (oneR a), 0) := by
  have h1 : okRR a = true ∧ okRR b = true := ⟨okRR_of ha.ok (by omega) ha.wrong, okRR_of hb.ok (by omega) hb.wrong⟩
  have e1 : canR (takeIn (cnt b) (if all = true then a else oneR a)) = rep (nBoth a b all) (oneR a) := both_eq a b all
  unfold rows_Both.f
  rw [if_pos (ha.small2 hb), if_pos h1, e1]
theorem minusF {a b : List (List V)} (ha : GoodR a) (hb : GoodR b) (all : Bool) : rows_Minus.f a b all = some (rep (nMinus a b all) (oneR a), 0) := by
  have h1 : okRR a = true ∧ okRR b = true := ⟨okRR_of ha.ok (by omega) ha.wrong, okRR_of hb.ok (by omega) hb.wrong⟩
  have e1 : canR (takeOut all (cnt b) (if all = true then a else oneR a)) = rep (nMinus a b all) (oneR a) := minus_eq a b all
  unfold rows_Minus.f
  rw [if_pos (ha.small2 hb), if_pos h1, e1]
theorem canF {a : List (List V)} (ha : GoodR a) : rows_Canonical.f a = some (canR a, 0) := by
  unfold rows_Canonical.f
  rw [if_pos ha.small, if_pos (okR_of ha.ok (by omega))]
theorem oneF {a : List (List V)} (ha : GoodR a) : rows_Distinct.f a = some (oneR a, 0) := by
  unfold rows_Distinct.f
  rw [if_pos ha.small, if_pos (okR_of ha.ok (by omega))]
theorem good_one {a : List (List V)} {x : List V} (ha : GoodR a) (hx : x ∈ a) : GoodR [x] := ha.sub (fun y hy => by rw [List.mem_singleton.1 hy]; exact hx) (by simp)
/-- how often both are alike, from a place on -/
def alikeR (a b l : List (List V)) : Bool := l.all fun x => decide (cnt a x = cnt b x)
theorem together_l0 (a b p : List (List V)) (is all : Bool) (ha : GoodR a) (hb : GoodR b) : ∀ (d i k : Nat) (al : Bool), i + d = a.length →
    tacticianlaw02_RowsTogether.l0 (k + d + 1) all a b p is al (i : Int) = tacticianlaw02_RowsTogether.l0 (k + 1) all a b p is (al && alikeR a b (a.drop i)) (a.length : Int) := by
  have hl := ha.1
  intro d
  induction d with
  | zero =>
    intro i k al hi
    rw [List.drop_of_length_le (by omega), show i = a.length by omega, Nat.add_zero]
    unfold alikeR
    rw [List.all_nil, Bool.and_true]
  | succ d ih =>
    intro i k al hi
    have h1 : i < a.length := by omega
    have hm := List.getElem_mem h1
    have h2 := good_one ha hm
    have hw : wrap64 ((i : Int) + 1) = ((i + 1 : Nat) : Int) := by rw [wrap_small (n := (i : Int) + 1) (by omega) (by omega)]; omega
    rw [show k + (d + 1) + 1 = (k + d + 1) + 1 by omega, tacticianlaw02_RowsTogether.l0, if_pos (by omega), if_pos (by omega), rdL_at a i h1, timesF, timesF, if_pos (ha.small2 h2), if_pos (hb.small2 h2)]
    simp -implicitDefEqProofs only [Option.bind_some, if_true]
    rw [hw, ih (i + 1) k _ (by omega), ih (i + 1) k _ (by omega), List.drop_eq_getElem_cons h1]
    have e : (((cnt a a[i] : Nat) : Int) == ((cnt b a[i] : Nat) : Int)) = decide (cnt a a[i] = cnt b a[i]) := by
      by_cases h : cnt a a[i] = cnt b a[i]
      · rw [h]; simp
      · rw [decide_eq_false h]
        have : ((cnt a a[i] : Nat) : Int) ≠ ((cnt b a[i] : Nat) : Int) := by omega
        simpa using this
    cases al with
    | true =>
      rw [if_pos rfl, e]
      unfold alikeR
      rw [List.all_cons, Bool.true_and]
    | false =>
      rw [if_neg (by decide), Bool.false_and, Bool.false_and]
theorem alike_iff (a b : List (List V)) : ((a.length : Int) == (b.length : Int) && alikeR a b a) = decide (canR a = canR b) := by
  have h1 : ((a.length : Int) == (b.length : Int)) = decide (a.length = b.length) := by
    by_cases h : a.length = b.length
    · rw [h]; simp
    · rw [decide_eq_false h]
      have : (a.length : Int) ≠ (b.length : Int) := by omega
      simpa using this
  rw [h1]
  by_cases h : canR a = canR b
  · rw [decide_eq_true h]
    obtain ⟨h2, h3⟩ := (same_iff a b).1 h
    rw [decide_eq_true h2, Bool.true_and]
    exact List.all_eq_true.2 fun x hx => decide_eq_true (h3 x hx)
  · rw [decide_eq_false h]
    by_cases h2 : a.length = b.length
    · rw [decide_eq_true h2, Bool.true_and]
      refine Bool.eq_false_iff.2 fun h3 => h ((same_iff a b).2 ⟨h2, fun x hx => ?_⟩)
      exact of_decide_eq_true ((List.all_eq_true.1 h3) x hx)
    · rw [decide_eq_false h2, Bool.false_and]
theorem together_j3 {a b : List (List V)} (ha : GoodR a) (all : Bool) (w : List (List V)) (hw : canR (rep (nBoth a b all) (oneR a) ++ rep (nMinus a b all) (oneR a)) = w) (hwl : w.length ≤ 100) (k : Nat) (hk : 200000 ≤ k) :
    tacticianlaw02_RowsTogether.j3 (k + 2) (rep (nBoth a b all) (oneR a)) 0 (rep (nMinus a b all) (oneR a)) 0 w = some true := by
  obtain ⟨X, hX⟩ : ∃ X, X = rep (nBoth a b all) (oneR a) := ⟨_, rfl⟩
  obtain ⟨Y, hY⟩ : ∃ Y, Y = rep (nMinus a b all) (oneR a) := ⟨_, rfl⟩
  have mem : ∀ x ∈ X ++ Y, x ∈ a := fun x hx => by
    rcases List.mem_append.1 hx with h | h
    · rw [hX] at h; exact ((oneR_spec a).2 x).1 (rep_memR h)
    · rw [hY] at h; exact ((oneR_spec a).2 x).1 (rep_memR h)
  rw [← hX, ← hY] at hw ⊢
  have hlen : (X ++ Y).length = w.length := by rw [← hw]; unfold canR; rw [sortBy_length]
  rw [List.length_append] at hlen
  have hG : GoodR (X ++ Y) := ha.sub mem (by rw [List.length_append]; omega)
  have hwr : wrap64 ((X.length : Int) + (Y.length : Int)) = (w.length : Int) := by rw [wrap_small (by omega) (by omega)]; omega
  rw [tacticianlaw02_RowsTogether.j3, if_pos rfl, if_pos rfl, hwr, bne_self_eq_false, tacticianlaw02_RowsTogether.j4, if_neg (by decide)]
  simp -implicitDefEqProofs only [Option.bind_some, List.length_nil, List.nil_append]
  rw [if_pos (by omega), if_pos (by omega), canF hG]
  simp -implicitDefEqProofs only [Option.bind_some, if_true]
  rw [hw, refEqual w ((hw ▸ canR_ok hG.ok : RowsOk 100 w).grow (by omega)) k (by omega)]
  simp -implicitDefEqProofs only [Option.bind_some, if_true]
  rfl
theorem together_j0 {a b : List (List V)} (ha : GoodR a) (hb : GoodR b) (all : Bool) (at_ : Nat) (hat : at_ ≤ a.length) (k : Nat) (hk : 300000 ≤ k) : tacticianlaw02_RowsTogether.j0 k all a b (at_ : Int) = some true := by
  have hl := ha.1
  obtain ⟨k, rfl⟩ : ∃ m, k = m + 1 := ⟨k - 1, by omega⟩
  have hdl : (a.drop at_).length = a.length - at_ := List.length_drop
  have htl : (a.take at_).length = at_ := by rw [List.length_take]; omega
  have hperm : (a.drop at_ ++ a.take at_).Perm a := List.perm_append_comm.trans (by rw [List.take_append_drop])
  have hG : GoodR (a.drop at_ ++ a.take at_) := ha.sub (fun x hx => hperm.mem_iff.1 hx) (by rw [List.length_append, hdl, htl]; omega)
  have hc : canR (a.drop at_ ++ a.take at_) = canR a := cfR_tc.same_perm hperm
  rw [tacticianlaw02_RowsTogether.j0]
  simp -implicitDefEqProofs only [Option.bind_some, List.length_nil, List.nil_append, Int.toNat_natCast]
  rw [if_pos (by omega), if_pos (by omega), if_pos (by rw [hdl]; omega), if_pos (by rw [hdl, htl]; omega), canF ha, canF hG, hc, sameF a b (ha.ok.grow (by omega)) (hb.ok.grow (by omega)), if_pos (ha.small2 hb)]
  simp -implicitDefEqProofs only [Option.bind_some, if_true]
  rw [refEqual _ (canR_ok (ha.ok.grow (by omega))) k (by omega)]
  simp -implicitDefEqProofs only [Option.bind_some, if_true]
  have hcl : (canR a).length = a.length := by unfold canR; rw [sortBy_length]
  obtain ⟨q, rfl⟩ : ∃ q, k = (q + a.length + 1) + 1 := ⟨k - a.length - 2, by omega⟩
  rw [hcl, bne_self_eq_false, tacticianlaw02_RowsTogether.j1, if_neg (by decide)]
  have h0 := together_l0 a b (canR a) (decide (canR a = canR b)) all ha hb a.length 0 q ((a.length : Int) == (b.length : Int)) (by omega)
  refine h0.trans ?_
  rw [List.drop_zero, alike_iff, tacticianlaw02_RowsTogether.l0, if_neg (by omega), bne_self_eq_false, if_neg (by decide), bothF ha hb, minusF ha hb]
  simp -implicitDefEqProofs only [Option.bind_some]
  obtain ⟨z, rfl⟩ : ∃ z, q = z + 2 := ⟨q - 2, by omega⟩
  cases all with
  | true =>
    rw [if_pos rfl]
    exact together_j3 ha true _ (together_all a b) (by rw [hcl]; omega) z (by omega)
  | false =>
    rw [if_neg (by decide), oneF ha]
    simp -implicitDefEqProofs only [Option.bind_some, if_true]
    exact together_j3 ha false _ (together_one a b) (by have := oneR_len a; omega) z (by omega)
theorem pure_RowsTogether : ∀ (l0 : (List (List V))) (l1 : (List (List V))) (a2 : Int) (a3 : Bool), argRows l0 → argRows l1 → ((Lit.int .u8 a2).wf = true) → ∃ k, Q.tacticianlaw02_RowsTogether.f k (l0) (l1) (a2) (a3) = some true := by
  intro l0 l1 n all h0 h1 hn
  have hn2 : 0 ≤ n ∧ n ≤ 255 := by
    simp only [Lit.wf, Bool.and_eq_true, decide_eq_true_eq] at hn
    have e0 : IntKind.min .u8 = 0 := rfl
    have e1 : IntKind.max .u8 = 255 := rfl
    omega
  refine ⟨400000, ?_⟩
  unfold tacticianlaw02_RowsTogether.f
  obtain ⟨a, ea, ha1, ha2⟩ := some_at l0 h0 14 (by omega) 400000 (by omega)
  obtain ⟨b, eb, hb1, hb2⟩ := some_at l1 h1 14 (by omega) 400000 (by omega)
  have ha : GoodR a := ⟨by omega, ha2⟩
  have hb : GoodR b := ⟨by omega, hb2⟩
  rw [show (14 : Int) = ((14 : Nat) : Int) from rfl, ea, eb]
  simp -implicitDefEqProofs only [Option.bind_some]
  by_cases h : 0 < a.length
  · have e1 : wrap64 n = n := wrap_small (by omega) (by omega)
    have t1 : 0 ≤ Int.tmod n (a.length : Int) := Int.tmod_nonneg _ hn2.1
    have t2 : Int.tmod n (a.length : Int) < (a.length : Int) := Int.tmod_lt_of_pos _ (by omega)
    rw [if_pos (by omega), if_neg (by omega), e1, show Int.tmod n (a.length : Int) = (((Int.tmod n (a.length : Int)).toNat : Nat) : Int) by omega]
    exact together_j0 ha hb all _ (by omega) 400000 (by omega)
  · rw [if_neg (by omega)]
    exact together_j0 ha hb all 0 (by omega) 400000 (by omega)
end Go.Proofs.YtmhobbdedmjmnaaGreatDoor
end
section
/- From data that are read (the form's 'trod') to what the printed contracts ask: numbers, bools, strings, slices, structs; with the reach's bounds. -/
namespace Go.Proofs.YtmhobbdedmjmnaaGreatDoor
open Go.RowKit Go.Proofs.YtmhobbdedmjmnaaGreatDoor.Q Go.Proofs.YtmhobbdedmjmnaaGreatDoorW.PrintWords Go.Proofs.YtmhobbdedmjmnaaGreatDoorW.PrintLast Go.Proofs.YtmhobbdedmjmnaaGreatDoorW.PrintMore
variable {α : Type}
/-- Data of type t that can be read are such a value; within the reach it is 'ok'. -/
def Opens (P : Program) (t : TypeId) (d : Kd α) (ok : α → Prop) : Prop :=
  ∀ (H : Type) (enc : TypeId × Value → H) (W : World) (base : Nat) (spare : Nat → Bool) (held : Bool) (fuel : Nat) (cs : List Value) (x : DataW H × List MemPlace),
    DataW.trod enc P W base spare held fuel t cs = some x → ∃ a, d.K W a cs ∧ (((DataW.weights P t x.1).all (· ≤ reachBytes)) = true → ok a)
theorem Opens.int {P : Program} {t : TypeId} {k : IntKind} (ht : P.underlying t = some (.int k)) : Opens P t (Kd.int k) (fun a => (Lit.int k a).wf = true) := by
  intro H enc W base spare held fuel cs x h
  obtain ⟨a, e0, rfl, wa⟩ := DataW.trod_int ht h
  exact ⟨a, e0, fun _ => wa⟩
theorem Opens.bool {P : Program} {t : TypeId} (ht : P.underlying t = some .bool) : Opens P t Kd.bool (fun _ => True) := by
  intro H enc W base spare held fuel cs x h
  obtain ⟨a, e0, rfl⟩ := DataW.trod_bool ht h
  exact ⟨a, e0, fun _ => trivial⟩
theorem Opens.string {P : Program} {t : TypeId} (ht : P.underlying t = some .string) : Opens P t Kd.string (fun a => a.size ≤ 140737488351232) := by
  intro H enc W base spare held fuel cs x h
  obtain ⟨a, e0, rfl, ws⟩ := DataW.trod_string ht h
  refine ⟨a, e0, fun hw => ?_⟩
  simp only [DataW.weights, List.all_cons, List.all_nil, Bool.and_true, decide_eq_true_eq] at hw
  have e : a.data.toList.length = a.size := Array.length_toList
  unfold reachBytes at hw
  omega
theorem mem_weightsAll {H : Type} (P : Program) (e : TypeId) : ∀ (l : List (DataW H)) (d : DataW H), d ∈ l → ∀ n, n ∈ d.weights P e → n ∈ DataW.weightsAll P e l := by
  intro l
  induction l with
  | nil => intro d hd; cases hd
  | cons z r ih =>
    intro d hd n hn
    rw [DataW.weightsAll, List.mem_append]
    rcases List.mem_cons.1 hd with rfl | hd
    · exact .inl hn
    · exact .inr (ih d hd n hn)
/-- choice along a list's places -/
theorem choose_list {β : Type} (n : Nat) (p : Nat → β → Prop) (h : ∀ i, i < n → ∃ b, p i b) : ∃ l : List β, l.length = n ∧ ∀ i b, l[i]? = some b → p i b := by
  induction n with
  | zero => exact ⟨[], rfl, fun i b hb => by simp at hb⟩
  | succ n ih =>
    obtain ⟨l, hl, hp⟩ := ih (fun i hi => h i (by omega))
    obtain ⟨b, hb⟩ := h n (by omega)
    refine ⟨l ++ [b], by simp [hl], fun i b' hb' => ?_⟩
    by_cases hi : i < l.length
    · rw [List.getElem?_append_left hi] at hb'; exact hp i b' hb'
    · rw [List.getElem?_append_right (by omega)] at hb'
      have hi2 : i = n := by
        rcases Nat.lt_or_ge (i - l.length) 1 with h1 | h1
        · omega
        · rw [List.getElem?_eq_none (by simpa using h1)] at hb'; cases hb'
      subst hi2
      rw [show i - l.length = 0 by omega] at hb'
      simp at hb'
      rw [← hb']; exact hb
theorem Opens.slice {P : Program} {t e : TypeId} {d : Kd α} {ok : α → Prop} {n : Nat} (ht : P.underlying t = some (.slice e)) (hc : P.cellsOf e = d.sz) (hb : P.bytesOf e = n) (hd : Opens P e d ok) :
    Opens P t (Kd.slice e d) (fun l => l.length * n ≤ 140737488351232 ∧ l.length ≤ maxLen ∧ ∀ a ∈ l, ok a) := by
  intro H enc W base spare held fuel cs x h
  rcases Go.Deep.open_slice ht h with ⟨rfl, rfl⟩ | ⟨a, len, cap, m, n', D, Pl, rfl, _, hl, hm, hmm, rfl, hx⟩
  · exact ⟨[], ⟨none, 0, rfl, Nat.le_refl _, rfl, by simp, fun h => absurd h (Nat.lt_irrefl _)⟩, fun _ => ⟨by simp, by simp, fun a ha => by cases ha⟩⟩
  · have hlm : len ≤ m := by rw [hmm]; split <;> omega
    obtain ⟨l, hll, hp⟩ := choose_list len (fun i z => ∃ cs', W.cells? base (a.add (i * P.cellsOf e)) (P.cellsOf e) = some cs' ∧ d.K W z cs' ∧ (((DataW.weights P e (D i)).all (· ≤ reachBytes)) = true → ok z)) (fun i hi => by
      obtain ⟨cs', h1, h2⟩ := hx i (by omega)
      obtain ⟨z, hz, hok⟩ := hd H enc W base spare held n' cs' _ h2
      exact ⟨z, cs', h1, hz, hok⟩)
    subst hll
    unfold maxLen at hm
    refine ⟨l, ⟨some a, cap, rfl, hl, rfl, by omega, fun _ => ⟨a, rfl, fun j p hj => ?_⟩⟩, fun hw => ?_⟩
    · obtain ⟨cs', h1, h2, _⟩ := hp j p hj
      rw [hc] at h1
      obtain ⟨_, hlen, hcell⟩ := World.cells?_some h1
      refine ⟨cs', hlen, h2, fun i u hu => ?_⟩
      have hi : i < d.sz := by rw [← hlen]; exact (List.getElem?_eq_some_iff.1 hu).1
      have := (hcell i hi).trans hu
      rw [Addr.add_add] at this
      exact this
    · rw [DataW.weights, ht] at hw
      simp only [List.all_cons, List.all_append, Bool.and_eq_true, decide_eq_true_eq] at hw
      obtain ⟨h1, h2, _⟩ := hw
      rw [hb] at h1
      refine ⟨?_, by unfold maxLen; omega, fun z hz => ?_⟩
      · have h3 : l.length * n ≤ (((List.range l.length).map D).length + ((List.range (m - l.length)).map fun j => D (l.length + j)).length) * n := Nat.mul_le_mul_right _ (by simp)
        unfold reachBytes at h1
        omega
      · obtain ⟨i, hi, rfl⟩ := List.getElem_of_mem hz
        obtain ⟨_, _, _, hok⟩ := hp i _ (List.getElem?_eq_getElem hi)
        refine hok ?_
        rw [List.all_eq_true] at h2 ⊢
        intro q hq
        exact h2 q (mem_weightsAll P e _ (D i) (List.mem_map.2 ⟨i, List.mem_range.2 hi, rfl⟩) q hq)
set_option maxRecDepth 100000 in
/-- a value: three cells -/
theorem Opens.value : Opens Tryz.prog 61 k61 (fun v => (Lit.int .i64 v.f0).wf = true ∧ (Lit.int .i64 v.f1).wf = true ∧ v.f2.size ≤ 140737488351232) := by
  intro H enc W base spare held fuel cs x h
  obtain ⟨y0, y1, y2, n, rfl, hl, h0, h1, h2⟩ := Go.Deep.trod_struct3 Tryz.underlying61 h
  have hc : Tryz.prog.cellsOf 61 = 3 := by kernel_rfl
  have c0 : Tryz.prog.cellsOf 59 = 1 := by kernel_rfl
  have c1 : Tryz.prog.cellsOf 2 = 1 := by kernel_rfl
  have c2 : Tryz.prog.cellsOf 9 = 1 := by kernel_rfl
  rw [hc] at hl
  simp only [c0, c1, c2] at h0 h1 h2
  obtain ⟨a, e0, o0⟩ := Opens.int Tryz.underlying59 H enc W base spare held _ _ _ h0
  obtain ⟨b, e1, o1⟩ := Opens.int Tryz.underlying2 H enc W base spare held _ _ _ h1
  obtain ⟨c, e2, o2⟩ := Opens.string Tryz.underlying9 H enc W base spare held _ _ _ h2
  match cs, hl with
  | [z0, z1, z2], _ =>
    have q0 : [z0] = [Value.int .i64 a] := e0
    have q1 : [z1] = [Value.int .i64 b] := e1
    have q2 : [z2] = [Value.string c] := e2
    simp only [List.cons.injEq, and_true] at q0 q1 q2
    subst q0 q1 q2
    refine ⟨⟨a, b, c⟩, k61_mk W ⟨a, b, c⟩, fun hw => ?_⟩
    rw [DataW.weights, Tryz.underlying61] at hw
    simp only [List.map_cons, List.map_nil, DataW.weightsEach, List.all_append, List.append_nil, Bool.and_eq_true] at hw
    exact ⟨o0 hw.1, o1 hw.2.1, o2 hw.2.2⟩
end Go.Proofs.YtmhobbdedmjmnaaGreatDoor
end
section
/- From data that are read to what the printed contracts ask: keys and columns (two cells each). -/
namespace Go.Proofs.YtmhobbdedmjmnaaGreatDoor
open Go.RowKit Go.Proofs.YtmhobbdedmjmnaaGreatDoor.Q Go.Proofs.YtmhobbdedmjmnaaGreatDoorW.PrintWords Go.Proofs.YtmhobbdedmjmnaaGreatDoorW.PrintLast Go.Proofs.YtmhobbdedmjmnaaGreatDoorW.PrintMore
set_option maxRecDepth 100000 in
/-- a key: two cells -/
theorem Opens.key : Opens Tryz.prog 36 k36 (fun v => (Lit.int .i64 v.f0).wf = true) := by
  intro H enc W base spare held fuel cs x h
  obtain ⟨y0, y1, n, rfl, hl, h0, h1⟩ := Go.ChangeShapes.trod_struct2 Tryz.underlying36 h
  have hc : Tryz.prog.cellsOf 36 = 2 := by kernel_rfl
  have c0 : Tryz.prog.cellsOf 3 = 1 := by kernel_rfl
  have c1 : Tryz.prog.cellsOf 4 = 1 := by kernel_rfl
  rw [hc] at hl
  simp only [c0, c1] at h0 h1
  obtain ⟨a, e0, o0⟩ := Opens.int Tryz.underlying3 H enc W base spare held _ _ _ h0
  obtain ⟨b, e1, o1⟩ := Opens.bool Tryz.underlying4 H enc W base spare held _ _ _ h1
  match cs, hl with
  | [z0, z1], _ =>
    have q0 : [z0] = [Value.int .i64 a] := e0
    have q1 : [z1] = [Value.bool b] := e1
    simp only [List.cons.injEq, and_true] at q0 q1
    subst q0 q1
    refine ⟨⟨a, b⟩, k36_mk W ⟨a, b⟩, fun hw => ?_⟩
    rw [DataW.weights, Tryz.underlying36] at hw
    simp only [List.map_cons, List.map_nil, DataW.weightsEach, List.all_append, List.append_nil, Bool.and_eq_true] at hw
    exact o0 hw.1
set_option maxRecDepth 100000 in
/-- a column: two cells -/
theorem Opens.col : Opens Tryz.prog 88 k88 (fun v => (Lit.int .i64 v.f0).wf = true) := by
  intro H enc W base spare held fuel cs x h
  obtain ⟨y0, y1, n, rfl, hl, h0, h1⟩ := Go.ChangeShapes.trod_struct2 Tryz.underlying88 h
  have hc : Tryz.prog.cellsOf 88 = 2 := by kernel_rfl
  have c0 : Tryz.prog.cellsOf 59 = 1 := by kernel_rfl
  have c1 : Tryz.prog.cellsOf 4 = 1 := by kernel_rfl
  rw [hc] at hl
  simp only [c0, c1] at h0 h1
  obtain ⟨a, e0, o0⟩ := Opens.int Tryz.underlying59 H enc W base spare held _ _ _ h0
  obtain ⟨b, e1, o1⟩ := Opens.bool Tryz.underlying4 H enc W base spare held _ _ _ h1
  match cs, hl with
  | [z0, z1], _ =>
    have q0 : [z0] = [Value.int .i64 a] := e0
    have q1 : [z1] = [Value.bool b] := e1
    simp only [List.cons.injEq, and_true] at q0 q1
    subst q0 q1
    refine ⟨⟨a, b⟩, k88_mk W ⟨a, b⟩, fun hw => ?_⟩
    rw [DataW.weights, Tryz.underlying88] at hw
    simp only [List.map_cons, List.map_nil, DataW.weightsEach, List.all_append, List.append_nil, Bool.and_eq_true] at hw
    exact o0 hw.1
end Go.Proofs.YtmhobbdedmjmnaaGreatDoor
end
