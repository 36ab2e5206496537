/- Proved: the card of the statement RowsForms, under the conditions of the given statements alone (written by a program of ours for this seat). -/
import Derived.ProofKit
import Derived.SizedLaws
import Derived.Deep.Slices
import Derived.Deep.Strs
import Derived.ChangeSame
import Derived.Test.YtmhobbdedmjmnaaGreatDoorRows
import Derived.HandedShaped
import Derived.Handed
import Derived.LaidLaws
import Derived.LaidHandle
import Derived.LaidMore
import Derived.Stop.LaidErr
import Derived.Lib.LaidTab
import Derived.Lib.LaidRTab
import Derived.Shelf.Vars
import Derived.Lib.LaidIn
import Derived.PinnedBridge
import Derived.Test.YtmhobbdedmjmnaaGreatDoorCards
import Derived.Test.YtmhobbdedmjmnaaGreatDoorTie
import Derived.SevenTiedAt
import Derived.WalkKit
import Derived.OpenShut
import Derived.ShutString
import Derived.ChangeOld
import Derived.Below
import Derived.Test.YtmhobbdedmjmnaaGreatDoorMForms6
section
/- Each function reached is shown to return what the plain function beside it computes, wherever that is defined (written by a program of ours for this seat). -/
namespace Go.Proofs.YtmhobbdedmjmnaaGreatDoor.Q
open Go.RowKit Go.Proofs.YtmhobbdedmjmnaaGreatDoorW.PrintWords Go.Proofs.YtmhobbdedmjmnaaGreatDoorW.PrintLast Go.Proofs.YtmhobbdedmjmnaaGreatDoorW.PrintMore
attribute [local go_sem] max2_int min2_int max_two min_two max_three min_three max_four min_four   -- for this text's walks alone
set_option linter.unusedVariables false
set_option linter.unusedSimpArgs false
/-! ### tacticianlaw02_awake: function 18 -/
section
/-- a number, as a value -/
abbrev iV (n : Int) : V := ⟨1, n, ⟨#[]⟩⟩
theorem below_any {w w' : World} (h : Below w.heap.size w w') : Below w.heap.size w w' := h
theorem rowK {W : World} {A : Option Addr} {n c : Nat} {x : List V} (h : Kd.C k61 W A n x) (hc : n ≤ c) : (Kd.slice 61 k61).K W x [.slice A n c] := by
  obtain rfl := h.1
  exact ⟨A, c, rfl, hc, h⟩
theorem rowKnil {W : World} : (Kd.slice 61 k61).K W [] [.slice none 0 0] := ⟨none, 0, rfl, Nat.le_refl _, Kd.C_nil _ _⟩
theorem rowLit1 (n : Int) (W : World) {g : Nat} (hg : g = W.heap.size) : Calls Tryz.prog 57 #[.slice (some ⟨g, 0, none⟩) 1 1] (W.alloc (.cells #[.int .i64 n] 2)) fun e w' => ∃ A c, e = .returned (.slice A 1 c) ∧ 1 ≤ c ∧ Kd.C k61 w' A 1 [iV n] ∧ Below W.heap.size W w' := by
  subst hg
  have hC : Kd.C (Kd.int .i64) (W.alloc (.cells #[.int .i64 n] 2)) (some ⟨W.heap.size, 0, none⟩) 1 [n] := C_lit rfl (blk_new W _) (Reps.one rfl (Reps.none _ _)) (show 1 ≤ 1000 by decide)
  refine (tacticianlaw02_row.calls 3 (some ⟨W.heap.size, 0, none⟩) 1 [n] [iV n] _ hC (Nat.le_refl _) (by simp [tacticianlaw02_row.f, tacticianlaw02_row.l0, tacticianref01_Int.f, rd, iV, wrap64])).mono ?_
  rintro e w' ⟨v, rfl, hv, hb⟩
  obtain ⟨A, c, rfl, h1, h2⟩ := Kd.R_reads hv
  exact ⟨A, c, rfl, h1, h2, below_step (below_alloc (Below.refl _ _) _) hb⟩
theorem rowLit2 (n m : Int) (W : World) {g : Nat} (hg : g = W.heap.size) : Calls Tryz.prog 57 #[.slice (some ⟨g, 0, none⟩) 2 2] (W.alloc (.cells #[.int .i64 n, .int .i64 m] 2)) fun e w' => ∃ A c, e = .returned (.slice A 2 c) ∧ 2 ≤ c ∧ Kd.C k61 w' A 2 [iV n, iV m] ∧ Below W.heap.size W w' := by
  subst hg
  have hC : Kd.C (Kd.int .i64) (W.alloc (.cells #[.int .i64 n, .int .i64 m] 2)) (some ⟨W.heap.size, 0, none⟩) 2 [n, m] := C_lit rfl (blk_new W _) (Reps.one rfl (Reps.one rfl (Reps.none _ _))) (show 2 ≤ 1000 by decide)
  refine (tacticianlaw02_row.calls 4 (some ⟨W.heap.size, 0, none⟩) 2 [n, m] [iV n, iV m] _ hC (Nat.le_refl _) (by simp [tacticianlaw02_row.f, tacticianlaw02_row.l0, tacticianref01_Int.f, rd, iV, wrap64])).mono ?_
  rintro e w' ⟨v, rfl, hv, hb⟩
  obtain ⟨A, c, rfl, h1, h2⟩ := Kd.R_reads hv
  exact ⟨A, c, rfl, h1, h2, below_step (below_alloc (Below.refl _ _) _) hb⟩
theorem keyLit {W : World} (g : Nat) (h : W.heap[g]? = some (.cells #[.int .i64 1, .bool true] 36 (0, 0))) : Kd.C k36 W (some ⟨g, 0, none⟩) 1 [(⟨1, true⟩ : KK)] :=
  ⟨rfl, by decide, fun _ => ⟨_, rfl, fun j p hj => by
    have hj0 : j = 0 := by
      have := (List.getElem?_eq_some_iff.1 hj).1
      simpa using this
    subst hj0
    have hp : (⟨1, true⟩ : KK) = p := by simpa using hj
    subst hp
    exact ⟨[.int .i64 1, .bool true], rfl, ⟨[.int .i64 1], [.bool true], rfl, rfl, rfl⟩, fun i u hu => by
      rw [show 0 * (k36).sz + i = i by rw [Nat.zero_mul, Nat.zero_add], add_at, Nat.zero_add, blk_cell h]
      simpa using hu⟩⟩⟩
theorem keyLit2 (W : World) (x : Obj) : Kd.C k36 ((W.alloc x).alloc (.cells #[.int .i64 1, .bool true] 36)) (some ⟨W.heap.size + 1, 0, none⟩) 1 [(⟨1, true⟩ : KK)] := by
  have h := blk_new (W.alloc x) (.cells #[.int .i64 1, .bool true] 36)
  rw [show (W.alloc x).heap.size = W.heap.size + 1 by simp] at h
  exact keyLit _ h
theorem canR_is {l r : List (List V)} (h1 : r.Perm l) (h2 : r.Pairwise fun a b => leOf cfR a b = true) : canR l = r := (cfR_tc.unique h1 h2).symm
theorem sortK_is (ks : List (Int × Bool)) {l r : List (List V)} (h1 : r.Perm l) (h2 : r.Pairwise fun a b => leOf (cfK ks) a b = true) : sortBy (cfK ks) l = r := ((cfK_tc ks).unique h1 h2).symm
theorem aw_HX : rows_Both.f [[iV 1], [iV 1], [iV 2]] [[iV 1], [iV 3]] true = some ([[iV 1]], 0) := by
  unfold rows_Both.f
  rw [if_pos (by decide +kernel), if_pos (by decide +kernel), if_pos rfl, canR_is (r := [[iV 1]]) (by decide +kernel) (by decide +kernel)]
theorem aw_HY : rows_Minus.f [[iV 1], [iV 1], [iV 2]] [[iV 1], [iV 3]] true = some ([[iV 1], [iV 2]], 0) := by
  unfold rows_Minus.f
  rw [if_pos (by decide +kernel), if_pos (by decide +kernel), if_pos rfl, canR_is (r := [[iV 1], [iV 2]]) (by decide +kernel) (by decide +kernel)]
theorem aw_one : oneR [[iV 1], [iV 1], [iV 2]] = [[iV 1], [iV 2]] := by
  unfold oneR
  rw [canR_is (r := [[iV 1], [iV 1], [iV 2]]) (by decide +kernel) (by decide +kernel)]
  decide +kernel
theorem aw_HZ : rows_Minus.f [[iV 1], [iV 1], [iV 2]] [[iV 1], [iV 3]] false = some ([[iV 2]], 0) := by
  unfold rows_Minus.f
  rw [if_pos (by decide +kernel), if_pos (by decide +kernel), if_neg (by decide), aw_one, canR_is (r := [[iV 2]]) (by decide +kernel) (by decide +kernel)]
theorem aw_HOO : rows_Ordered.f [[iV 1, iV 2], [iV 2, iV 1], [iV 1, iV 1]] [(⟨1, true⟩ : KK)] = some ([[iV 1, iV 2], [iV 1, iV 1], [iV 2, iV 1]], 0) := by
  unfold rows_Ordered.f
  rw [if_pos (by decide +kernel), if_pos (by decide +kernel), if_pos (by decide +kernel), sortK_is _ (r := [[iV 1, iV 2], [iV 1, iV 1], [iV 2, iV 1]]) (by decide +kernel) (by decide +kernel)]
theorem aw_S : rows_String.f [[iV 1, iV 2], []] = some (⟨#[40, 49, 44, 32, 50, 41, 10, 40, 41, 10]⟩, 0) := by
  unfold rows_String.f
  rw [if_pos (by decide +kernel), if_pos (by decide +kernel), if_pos (by decide +kernel)]
  decide +kernel
def tacticianlaw02_awake.f : Option Bool := some true
set_option maxRecDepth 100000 in
set_option maxHeartbeats 8000000 in
theorem tacticianlaw02_awake.calls (r : Bool) (w : World) (hL_ : Laid w) (h : tacticianlaw02_awake.f = some r) :
  Calls Tryz.prog 18 #[] w fun e w' => e = .returned (.bool r) ∧ Below w.heap.size w w' := by
 obtain rfl := Option.some.inj h
 clear h
 have HLD := Aside0.mk hL_
 clear hL_
 have hu36 := Tryz.underlying36
 have HB := Aside0.mk (Below.refl w.heap.size w)
 go_enter Tryz.func18, Tryz.ntmps18
 go_wp2_with fail
 refine (rowLit1 1 (w) (by first | rfl | (go_simp; done) | (go_simp; rfl))).mono ?_
 rintro e w1 ⟨A1, c1, rfl, hl1, hC1, hb1⟩
 have HT := Aside0.mk (below_step HB.out hb1)
 clear HB
 have HB := HT
 clear HT
 have HC1 := Aside0.mk hC1
 have HL1 := Aside0.mk hl1
 clear hC1 hl1 hb1
 go_wp2_with fail
 refine (rowLit1 1 (w1) (by first | rfl | (go_simp; done) | (go_simp; rfl))).mono ?_
 rintro e w2 ⟨A2, c2, rfl, hl2, hC2, hb2⟩
 have HC1_ := Aside0.mk (Kd.C_below HC1.out hb2)
 clear HC1
 have HC1 := HC1_
 clear HC1_
 have HT := Aside0.mk (below_step HB.out hb2)
 clear HB
 have HB := HT
 clear HT
 have HC2 := Aside0.mk hC2
 have HL2 := Aside0.mk hl2
 clear hC2 hl2 hb2
 go_wp2_with fail
 refine (rowLit1 2 (w2) (by first | rfl | (go_simp; done) | (go_simp; rfl))).mono ?_
 rintro e w3 ⟨A3, c3, rfl, hl3, hC3, hb3⟩
 have HC1_ := Aside0.mk (Kd.C_below HC1.out hb3)
 clear HC1
 have HC1 := HC1_
 clear HC1_
 have HC2_ := Aside0.mk (Kd.C_below HC2.out hb3)
 clear HC2
 have HC2 := HC2_
 clear HC2_
 have HT := Aside0.mk (below_step HB.out hb3)
 clear HB
 have HB := HT
 clear HT
 have HC3 := Aside0.mk hC3
 have HL3 := Aside0.mk hl3
 clear hC3 hl3 hb3
 have HC1_ := Aside0.mk (Kd.C_below HC1.out (below_alloc (Below.refl _ _) (.cells #[.slice A1 1 c1, .slice A2 1 c2, .slice A3 1 c3] 40)))
 clear HC1
 have HC1 := HC1_
 clear HC1_
 have HC2_ := Aside0.mk (Kd.C_below HC2.out (below_alloc (Below.refl _ _) (.cells #[.slice A1 1 c1, .slice A2 1 c2, .slice A3 1 c3] 40)))
 clear HC2
 have HC2 := HC2_
 clear HC2_
 have HC3_ := Aside0.mk (Kd.C_below HC3.out (below_alloc (Below.refl _ _) (.cells #[.slice A1 1 c1, .slice A2 1 c2, .slice A3 1 c3] 40)))
 clear HC3
 have HC3 := HC3_
 clear HC3_
 have HA : Aside0 (Kd.C (Kd.slice 61 k61) (w3.alloc (.cells #[.slice A1 1 c1, .slice A2 1 c2, .slice A3 1 c3] 40)) _ 3 [[iV 1], [iV 1], [iV 2]]) := ⟨C_lit rfl (blk_new _ _) (Reps.one (rowK HC1.out HL1.out) (Reps.one (rowK HC2.out HL2.out) (Reps.one (rowK HC3.out HL3.out) (Reps.none _ _)))) (show 3 ≤ 1000 by decide)⟩
 clear HC1 HL1
 clear HC2 HL2
 clear HC3 HL3
 have HT := Aside0.mk (below_alloc HB.out (.cells #[.slice A1 1 c1, .slice A2 1 c2, .slice A3 1 c3] 40))
 clear HB
 have HB := HT
 clear HT
 go_wp2_with fail
 refine (rowLit1 1 (w3.alloc (.cells #[.slice A1 1 c1, .slice A2 1 c2, .slice A3 1 c3] 40)) (by first | rfl | (go_simp; done) | (go_simp; rfl))).mono ?_
 rintro e w4 ⟨A4, c4, rfl, hl4, hC4, hb4⟩
 have HA_ := Aside0.mk (Kd.C_below HA.out hb4)
 clear HA
 have HA := HA_
 clear HA_
 have HT := Aside0.mk (below_step HB.out hb4)
 clear HB
 have HB := HT
 clear HT
 have HC4 := Aside0.mk hC4
 have HL4 := Aside0.mk hl4
 clear hC4 hl4 hb4
 go_wp2_with fail
 refine (rowLit1 3 (w4) (by first | rfl | (go_simp; done) | (go_simp; rfl))).mono ?_
 rintro e w5 ⟨A5, c5, rfl, hl5, hC5, hb5⟩
 have HA_ := Aside0.mk (Kd.C_below HA.out hb5)
 clear HA
 have HA := HA_
 clear HA_
 have HC4_ := Aside0.mk (Kd.C_below HC4.out hb5)
 clear HC4
 have HC4 := HC4_
 clear HC4_
 have HT := Aside0.mk (below_step HB.out hb5)
 clear HB
 have HB := HT
 clear HT
 have HC5 := Aside0.mk hC5
 have HL5 := Aside0.mk hl5
 clear hC5 hl5 hb5
 have HA_ := Aside0.mk (Kd.C_below HA.out (below_alloc (Below.refl _ _) (.cells #[.slice A4 1 c4, .slice A5 1 c5] 40)))
 clear HA
 have HA := HA_
 clear HA_
 have HC4_ := Aside0.mk (Kd.C_below HC4.out (below_alloc (Below.refl _ _) (.cells #[.slice A4 1 c4, .slice A5 1 c5] 40)))
 clear HC4
 have HC4 := HC4_
 clear HC4_
 have HC5_ := Aside0.mk (Kd.C_below HC5.out (below_alloc (Below.refl _ _) (.cells #[.slice A4 1 c4, .slice A5 1 c5] 40)))
 clear HC5
 have HC5 := HC5_
 clear HC5_
 have HBB : Aside0 (Kd.C (Kd.slice 61 k61) (w5.alloc (.cells #[.slice A4 1 c4, .slice A5 1 c5] 40)) _ 2 [[iV 1], [iV 3]]) := ⟨C_lit rfl (blk_new _ _) (Reps.one (rowK HC4.out HL4.out) (Reps.one (rowK HC5.out HL5.out) (Reps.none _ _))) (show 2 ≤ 1000 by decide)⟩
 clear HC4 HL4
 clear HC5 HL5
 have HT := Aside0.mk (below_alloc HB.out (.cells #[.slice A4 1 c4, .slice A5 1 c5] 40))
 clear HB
 have HB := HT
 clear HT
 go_wp2_with fail
 refine (rows_Both.calls _ _ [[iV 1], [iV 1], [iV 2]] _ _ [[iV 1], [iV 3]] true [[iV 1]] 0 _ HA.out (Nat.le_refl _) HBB.out (Nat.le_refl _) (HLD.out.below HB.out) (by exact aw_HX)).mono ?_
 rintro e w6 ⟨v6, rfl, hv6, hb6⟩
 obtain ⟨A6, c6, rfl, hl6, hC6⟩ := Kd.S_reads hv6
 have HA_ := Aside0.mk (Kd.C_below HA.out hb6)
 clear HA
 have HA := HA_
 clear HA_
 have HBB_ := Aside0.mk (Kd.C_below HBB.out hb6)
 clear HBB
 have HBB := HBB_
 clear HBB_
 have HT := Aside0.mk (below_step HB.out hb6)
 clear HB
 have HB := HT
 clear HT
 have HX := Aside0.mk hC6
 have LHX := Aside0.mk hl6
 clear hC6 hl6 hv6 hb6
 go_wp2_with fail
 refine (rows_Minus.calls _ _ [[iV 1], [iV 1], [iV 2]] _ _ [[iV 1], [iV 3]] true [[iV 1], [iV 2]] 0 _ HA.out (Nat.le_refl _) HBB.out (Nat.le_refl _) (HLD.out.below HB.out) (by exact aw_HY)).mono ?_
 rintro e w7 ⟨v7, rfl, hv7, hb7⟩
 obtain ⟨A7, c7, rfl, hl7, hC7⟩ := Kd.S_reads hv7
 have HA_ := Aside0.mk (Kd.C_below HA.out hb7)
 clear HA
 have HA := HA_
 clear HA_
 have HBB_ := Aside0.mk (Kd.C_below HBB.out hb7)
 clear HBB
 have HBB := HBB_
 clear HBB_
 have HX_ := Aside0.mk (Kd.C_below HX.out hb7)
 clear HX
 have HX := HX_
 clear HX_
 have HT := Aside0.mk (below_step HB.out hb7)
 clear HB
 have HB := HT
 clear HT
 have HY := Aside0.mk hC7
 have LHY := Aside0.mk hl7
 clear hC7 hl7 hv7 hb7
 go_wp2_with fail
 refine (rows_Minus.calls _ _ [[iV 1], [iV 1], [iV 2]] _ _ [[iV 1], [iV 3]] false [[iV 2]] 0 _ HA.out (Nat.le_refl _) HBB.out (Nat.le_refl _) (HLD.out.below HB.out) (by exact aw_HZ)).mono ?_
 rintro e w8 ⟨v8, rfl, hv8, hb8⟩
 obtain ⟨A8, c8, rfl, hl8, hC8⟩ := Kd.S_reads hv8
 have HA_ := Aside0.mk (Kd.C_below HA.out hb8)
 clear HA
 have HA := HA_
 clear HA_
 have HBB_ := Aside0.mk (Kd.C_below HBB.out hb8)
 clear HBB
 have HBB := HBB_
 clear HBB_
 have HX_ := Aside0.mk (Kd.C_below HX.out hb8)
 clear HX
 have HX := HX_
 clear HX_
 have HY_ := Aside0.mk (Kd.C_below HY.out hb8)
 clear HY
 have HY := HY_
 clear HY_
 have HT := Aside0.mk (below_step HB.out hb8)
 clear HB
 have HB := HT
 clear HT
 have HZ := Aside0.mk hC8
 have LHZ := Aside0.mk hl8
 clear hC8 hl8 hv8 hb8
 clear HA HBB
 go_wp2_with fail
 refine (rowLit2 1 2 (w8) (by first | rfl | (go_simp; done) | (go_simp; rfl))).mono ?_
 rintro e w9 ⟨A9, c9, rfl, hl9, hC9, hb9⟩
 have HX_ := Aside0.mk (Kd.C_below HX.out hb9)
 clear HX
 have HX := HX_
 clear HX_
 have HY_ := Aside0.mk (Kd.C_below HY.out hb9)
 clear HY
 have HY := HY_
 clear HY_
 have HZ_ := Aside0.mk (Kd.C_below HZ.out hb9)
 clear HZ
 have HZ := HZ_
 clear HZ_
 have HT := Aside0.mk (below_step HB.out hb9)
 clear HB
 have HB := HT
 clear HT
 have HC9 := Aside0.mk hC9
 have HL9 := Aside0.mk hl9
 clear hC9 hl9 hb9
 go_wp2_with fail
 refine (rowLit2 2 1 (w9) (by first | rfl | (go_simp; done) | (go_simp; rfl))).mono ?_
 rintro e w10 ⟨A10, c10, rfl, hl10, hC10, hb10⟩
 have HX_ := Aside0.mk (Kd.C_below HX.out hb10)
 clear HX
 have HX := HX_
 clear HX_
 have HY_ := Aside0.mk (Kd.C_below HY.out hb10)
 clear HY
 have HY := HY_
 clear HY_
 have HZ_ := Aside0.mk (Kd.C_below HZ.out hb10)
 clear HZ
 have HZ := HZ_
 clear HZ_
 have HC9_ := Aside0.mk (Kd.C_below HC9.out hb10)
 clear HC9
 have HC9 := HC9_
 clear HC9_
 have HT := Aside0.mk (below_step HB.out hb10)
 clear HB
 have HB := HT
 clear HT
 have HC10 := Aside0.mk hC10
 have HL10 := Aside0.mk hl10
 clear hC10 hl10 hb10
 go_wp2_with fail
 refine (rowLit2 1 1 (w10) (by first | rfl | (go_simp; done) | (go_simp; rfl))).mono ?_
 rintro e w11 ⟨A11, c11, rfl, hl11, hC11, hb11⟩
 have HX_ := Aside0.mk (Kd.C_below HX.out hb11)
 clear HX
 have HX := HX_
 clear HX_
 have HY_ := Aside0.mk (Kd.C_below HY.out hb11)
 clear HY
 have HY := HY_
 clear HY_
 have HZ_ := Aside0.mk (Kd.C_below HZ.out hb11)
 clear HZ
 have HZ := HZ_
 clear HZ_
 have HC9_ := Aside0.mk (Kd.C_below HC9.out hb11)
 clear HC9
 have HC9 := HC9_
 clear HC9_
 have HC10_ := Aside0.mk (Kd.C_below HC10.out hb11)
 clear HC10
 have HC10 := HC10_
 clear HC10_
 have HT := Aside0.mk (below_step HB.out hb11)
 clear HB
 have HB := HT
 clear HT
 have HC11 := Aside0.mk hC11
 have HL11 := Aside0.mk hl11
 clear hC11 hl11 hb11
 have HX_ := Aside0.mk (Kd.C_below HX.out (below_alloc (Below.refl _ _) (.cells #[.slice A9 2 c9, .slice A10 2 c10, .slice A11 2 c11] 40)))
 clear HX
 have HX := HX_
 clear HX_
 have HY_ := Aside0.mk (Kd.C_below HY.out (below_alloc (Below.refl _ _) (.cells #[.slice A9 2 c9, .slice A10 2 c10, .slice A11 2 c11] 40)))
 clear HY
 have HY := HY_
 clear HY_
 have HZ_ := Aside0.mk (Kd.C_below HZ.out (below_alloc (Below.refl _ _) (.cells #[.slice A9 2 c9, .slice A10 2 c10, .slice A11 2 c11] 40)))
 clear HZ
 have HZ := HZ_
 clear HZ_
 have HC9_ := Aside0.mk (Kd.C_below HC9.out (below_alloc (Below.refl _ _) (.cells #[.slice A9 2 c9, .slice A10 2 c10, .slice A11 2 c11] 40)))
 clear HC9
 have HC9 := HC9_
 clear HC9_
 have HC10_ := Aside0.mk (Kd.C_below HC10.out (below_alloc (Below.refl _ _) (.cells #[.slice A9 2 c9, .slice A10 2 c10, .slice A11 2 c11] 40)))
 clear HC10
 have HC10 := HC10_
 clear HC10_
 have HC11_ := Aside0.mk (Kd.C_below HC11.out (below_alloc (Below.refl _ _) (.cells #[.slice A9 2 c9, .slice A10 2 c10, .slice A11 2 c11] 40)))
 clear HC11
 have HC11 := HC11_
 clear HC11_
 have HO0 : Aside0 (Kd.C (Kd.slice 61 k61) (w11.alloc (.cells #[.slice A9 2 c9, .slice A10 2 c10, .slice A11 2 c11] 40)) _ 3 [[iV 1, iV 2], [iV 2, iV 1], [iV 1, iV 1]]) := ⟨C_lit rfl (blk_new _ _) (Reps.one (rowK HC9.out HL9.out) (Reps.one (rowK HC10.out HL10.out) (Reps.one (rowK HC11.out HL11.out) (Reps.none _ _)))) (show 3 ≤ 1000 by decide)⟩
 clear HC9 HL9
 clear HC10 HL10
 clear HC11 HL11
 have HT := Aside0.mk (below_alloc HB.out (.cells #[.slice A9 2 c9, .slice A10 2 c10, .slice A11 2 c11] 40))
 clear HB
 have HB := HT
 clear HT
 go_wp2_with fail
 have HX_ := Aside0.mk (Kd.C_below HX.out (below_alloc (Below.refl _ _) (.cells #[.int .i64 1, .bool true] 36)))
 clear HX
 have HX := HX_
 clear HX_
 have HY_ := Aside0.mk (Kd.C_below HY.out (below_alloc (Below.refl _ _) (.cells #[.int .i64 1, .bool true] 36)))
 clear HY
 have HY := HY_
 clear HY_
 have HZ_ := Aside0.mk (Kd.C_below HZ.out (below_alloc (Below.refl _ _) (.cells #[.int .i64 1, .bool true] 36)))
 clear HZ
 have HZ := HZ_
 clear HZ_
 have HO0_ := Aside0.mk (Kd.C_below HO0.out (below_alloc (Below.refl _ _) (.cells #[.int .i64 1, .bool true] 36)))
 clear HO0
 have HO0 := HO0_
 clear HO0_
 have HT := Aside0.mk (below_alloc HB.out (.cells #[.int .i64 1, .bool true] 36))
 clear HB
 have HB := HT
 clear HT
 have HKY : Aside0 (Kd.C k36 ((w11.alloc (.cells #[.slice A9 2 c9, .slice A10 2 c10, .slice A11 2 c11] 40)).alloc (.cells #[.int .i64 1, .bool true] 36)) (some ⟨w11.heap.size + 1, 0, none⟩) 1 [(⟨1, true⟩ : KK)]) := ⟨keyLit2 _ _⟩
 refine (rows_Ordered.calls _ _ [[iV 1, iV 2], [iV 2, iV 1], [iV 1, iV 1]] _ _ [(⟨1, true⟩ : KK)] [[iV 1, iV 2], [iV 1, iV 1], [iV 2, iV 1]] 0 _ HO0.out (Nat.le_refl _) HKY.out (Nat.le_refl _) (by exact aw_HOO)).mono ?_
 rintro e w12 ⟨v12, rfl, hv12, hb12⟩
 obtain ⟨A12, c12, rfl, hl12, hC12⟩ := Kd.S_reads hv12
 clear HO0 HKY
 have HX_ := Aside0.mk (Kd.C_below HX.out hb12)
 clear HX
 have HX := HX_
 clear HX_
 have HY_ := Aside0.mk (Kd.C_below HY.out hb12)
 clear HY
 have HY := HY_
 clear HY_
 have HZ_ := Aside0.mk (Kd.C_below HZ.out hb12)
 clear HZ
 have HZ := HZ_
 clear HZ_
 have HT := Aside0.mk (below_step HB.out hb12)
 clear HB
 have HB := HT
 clear HT
 have HOO := Aside0.mk hC12
 have LHOO := Aside0.mk hl12
 clear hC12 hl12 hv12 hb12
 go_wp2_with fail
 refine (rowLit2 1 2 (w12) (by first | rfl | (go_simp; done) | (go_simp; rfl))).mono ?_
 rintro e w13 ⟨A13, c13, rfl, hl13, hC13, hb13⟩
 have HX_ := Aside0.mk (Kd.C_below HX.out hb13)
 clear HX
 have HX := HX_
 clear HX_
 have HY_ := Aside0.mk (Kd.C_below HY.out hb13)
 clear HY
 have HY := HY_
 clear HY_
 have HZ_ := Aside0.mk (Kd.C_below HZ.out hb13)
 clear HZ
 have HZ := HZ_
 clear HZ_
 have HOO_ := Aside0.mk (Kd.C_below HOO.out hb13)
 clear HOO
 have HOO := HOO_
 clear HOO_
 have HT := Aside0.mk (below_step HB.out hb13)
 clear HB
 have HB := HT
 clear HT
 have HC13 := Aside0.mk hC13
 have HL13 := Aside0.mk hl13
 clear hC13 hl13 hb13
 have HX_ := Aside0.mk (Kd.C_below HX.out (below_alloc (Below.refl _ _) (.cells #[.slice A13 2 c13, .slice none 0 0] 40)))
 clear HX
 have HX := HX_
 clear HX_
 have HY_ := Aside0.mk (Kd.C_below HY.out (below_alloc (Below.refl _ _) (.cells #[.slice A13 2 c13, .slice none 0 0] 40)))
 clear HY
 have HY := HY_
 clear HY_
 have HZ_ := Aside0.mk (Kd.C_below HZ.out (below_alloc (Below.refl _ _) (.cells #[.slice A13 2 c13, .slice none 0 0] 40)))
 clear HZ
 have HZ := HZ_
 clear HZ_
 have HOO_ := Aside0.mk (Kd.C_below HOO.out (below_alloc (Below.refl _ _) (.cells #[.slice A13 2 c13, .slice none 0 0] 40)))
 clear HOO
 have HOO := HOO_
 clear HOO_
 have HC13_ := Aside0.mk (Kd.C_below HC13.out (below_alloc (Below.refl _ _) (.cells #[.slice A13 2 c13, .slice none 0 0] 40)))
 clear HC13
 have HC13 := HC13_
 clear HC13_
 have HS0 : Aside0 (Kd.C (Kd.slice 61 k61) (w13.alloc (.cells #[.slice A13 2 c13, .slice none 0 0] 40)) _ 2 [[iV 1, iV 2], []]) := ⟨C_lit rfl (blk_new _ _) (Reps.one (rowK HC13.out HL13.out) (Reps.one rowKnil (Reps.none _ _))) (show 2 ≤ 1000 by decide)⟩
 clear HC13 HL13
 have HT := Aside0.mk (below_alloc HB.out (.cells #[.slice A13 2 c13, .slice none 0 0] 40))
 clear HB
 have HB := HT
 clear HT
 go_wp2_with fail
 refine (rows_String.calls _ _ [[iV 1, iV 2], []] ⟨#[40, 49, 44, 32, 50, 41, 10, 40, 41, 10]⟩ 0 _ HS0.out (Nat.le_refl _) (HLD.out.below HB.out) (by exact aw_S)).mono ?_
 rintro e w14 ⟨rfl, hb14⟩
 clear HS0
 have HX_ := Aside0.mk (Kd.C_below HX.out hb14)
 clear HX
 have HX := HX_
 clear HX_
 have HY_ := Aside0.mk (Kd.C_below HY.out hb14)
 clear HY
 have HY := HY_
 clear HY_
 have HZ_ := Aside0.mk (Kd.C_below HZ.out hb14)
 clear HZ
 have HZ := HZ_
 clear HZ_
 have HOO_ := Aside0.mk (Kd.C_below HOO.out hb14)
 clear HOO
 have HOO := HOO_
 clear HOO_
 have HT := Aside0.mk (below_step HB.out hb14)
 clear HB hb14
 have HB := HT
 clear HT
 go_wp2_with fail
 refine (rowLit1 1 (w14) (by first | rfl | (go_simp; done) | (go_simp; rfl))).mono ?_
 rintro e w15 ⟨A15, c15, rfl, hl15, hC15, hb15⟩
 have HX_ := Aside0.mk (Kd.C_below HX.out hb15)
 clear HX
 have HX := HX_
 clear HX_
 have HY_ := Aside0.mk (Kd.C_below HY.out hb15)
 clear HY
 have HY := HY_
 clear HY_
 have HZ_ := Aside0.mk (Kd.C_below HZ.out hb15)
 clear HZ
 have HZ := HZ_
 clear HZ_
 have HOO_ := Aside0.mk (Kd.C_below HOO.out hb15)
 clear HOO
 have HOO := HOO_
 clear HOO_
 have HT := Aside0.mk (below_step HB.out hb15)
 clear HB
 have HB := HT
 clear HT
 have HC15 := Aside0.mk hC15
 have HL15 := Aside0.mk hl15
 clear hC15 hl15 hb15
 have HX_ := Aside0.mk (Kd.C_below HX.out (below_alloc (Below.refl _ _) (.cells #[.slice A15 1 c15] 40)))
 clear HX
 have HX := HX_
 clear HX_
 have HY_ := Aside0.mk (Kd.C_below HY.out (below_alloc (Below.refl _ _) (.cells #[.slice A15 1 c15] 40)))
 clear HY
 have HY := HY_
 clear HY_
 have HZ_ := Aside0.mk (Kd.C_below HZ.out (below_alloc (Below.refl _ _) (.cells #[.slice A15 1 c15] 40)))
 clear HZ
 have HZ := HZ_
 clear HZ_
 have HOO_ := Aside0.mk (Kd.C_below HOO.out (below_alloc (Below.refl _ _) (.cells #[.slice A15 1 c15] 40)))
 clear HOO
 have HOO := HOO_
 clear HOO_
 have HC15_ := Aside0.mk (Kd.C_below HC15.out (below_alloc (Below.refl _ _) (.cells #[.slice A15 1 c15] 40)))
 clear HC15
 have HC15 := HC15_
 clear HC15_
 have HQ : Aside0 (Kd.C (Kd.slice 61 k61) (w15.alloc (.cells #[.slice A15 1 c15] 40)) _ 1 [[iV 1]]) := ⟨C_lit rfl (blk_new _ _) (Reps.one (rowK HC15.out HL15.out) (Reps.none _ _)) (show 1 ≤ 1000 by decide)⟩
 clear HC15 HL15
 have HT := Aside0.mk (below_alloc HB.out (.cells #[.slice A15 1 c15] 40))
 clear HB
 have HB := HT
 clear HT
 go_wp2_with fail
 refine (tacticianref02_Equal.calls 20 _ _ [[iV 1]] _ _ [[iV 1]] true _ HX.out LHX.out HQ.out (Nat.le_refl _) (by decide +kernel)).mono ?_
 rintro e w16 ⟨rfl, hb16⟩
 replace hb16 := below_any hb16
 clear HQ
 have HX_ := Aside0.mk (Kd.C_below HX.out hb16)
 clear HX
 have HX := HX_
 clear HX_
 have HY_ := Aside0.mk (Kd.C_below HY.out hb16)
 clear HY
 have HY := HY_
 clear HY_
 have HZ_ := Aside0.mk (Kd.C_below HZ.out hb16)
 clear HZ
 have HZ := HZ_
 clear HZ_
 have HOO_ := Aside0.mk (Kd.C_below HOO.out hb16)
 clear HOO
 have HOO := HOO_
 clear HOO_
 have HT := Aside0.mk (below_step HB.out hb16)
 clear HB hb16
 have HB := HT
 clear HT
 clear HX LHX
 go_wp2_with fail
 refine (rowLit1 1 (w16) (by first | rfl | (go_simp; done) | (go_simp; rfl))).mono ?_
 rintro e w17 ⟨A17, c17, rfl, hl17, hC17, hb17⟩
 have HY_ := Aside0.mk (Kd.C_below HY.out hb17)
 clear HY
 have HY := HY_
 clear HY_
 have HZ_ := Aside0.mk (Kd.C_below HZ.out hb17)
 clear HZ
 have HZ := HZ_
 clear HZ_
 have HOO_ := Aside0.mk (Kd.C_below HOO.out hb17)
 clear HOO
 have HOO := HOO_
 clear HOO_
 have HT := Aside0.mk (below_step HB.out hb17)
 clear HB
 have HB := HT
 clear HT
 have HC17 := Aside0.mk hC17
 have HL17 := Aside0.mk hl17
 clear hC17 hl17 hb17
 go_wp2_with fail
 refine (rowLit1 2 (w17) (by first | rfl | (go_simp; done) | (go_simp; rfl))).mono ?_
 rintro e w18 ⟨A18, c18, rfl, hl18, hC18, hb18⟩
 have HY_ := Aside0.mk (Kd.C_below HY.out hb18)
 clear HY
 have HY := HY_
 clear HY_
 have HZ_ := Aside0.mk (Kd.C_below HZ.out hb18)
 clear HZ
 have HZ := HZ_
 clear HZ_
 have HOO_ := Aside0.mk (Kd.C_below HOO.out hb18)
 clear HOO
 have HOO := HOO_
 clear HOO_
 have HC17_ := Aside0.mk (Kd.C_below HC17.out hb18)
 clear HC17
 have HC17 := HC17_
 clear HC17_
 have HT := Aside0.mk (below_step HB.out hb18)
 clear HB
 have HB := HT
 clear HT
 have HC18 := Aside0.mk hC18
 have HL18 := Aside0.mk hl18
 clear hC18 hl18 hb18
 have HY_ := Aside0.mk (Kd.C_below HY.out (below_alloc (Below.refl _ _) (.cells #[.slice A17 1 c17, .slice A18 1 c18] 40)))
 clear HY
 have HY := HY_
 clear HY_
 have HZ_ := Aside0.mk (Kd.C_below HZ.out (below_alloc (Below.refl _ _) (.cells #[.slice A17 1 c17, .slice A18 1 c18] 40)))
 clear HZ
 have HZ := HZ_
 clear HZ_
 have HOO_ := Aside0.mk (Kd.C_below HOO.out (below_alloc (Below.refl _ _) (.cells #[.slice A17 1 c17, .slice A18 1 c18] 40)))
 clear HOO
 have HOO := HOO_
 clear HOO_
 have HC17_ := Aside0.mk (Kd.C_below HC17.out (below_alloc (Below.refl _ _) (.cells #[.slice A17 1 c17, .slice A18 1 c18] 40)))
 clear HC17
 have HC17 := HC17_
 clear HC17_
 have HC18_ := Aside0.mk (Kd.C_below HC18.out (below_alloc (Below.refl _ _) (.cells #[.slice A17 1 c17, .slice A18 1 c18] 40)))
 clear HC18
 have HC18 := HC18_
 clear HC18_
 have HQ : Aside0 (Kd.C (Kd.slice 61 k61) (w18.alloc (.cells #[.slice A17 1 c17, .slice A18 1 c18] 40)) _ 2 [[iV 1], [iV 2]]) := ⟨C_lit rfl (blk_new _ _) (Reps.one (rowK HC17.out HL17.out) (Reps.one (rowK HC18.out HL18.out) (Reps.none _ _))) (show 2 ≤ 1000 by decide)⟩
 clear HC17 HL17
 clear HC18 HL18
 have HT := Aside0.mk (below_alloc HB.out (.cells #[.slice A17 1 c17, .slice A18 1 c18] 40))
 clear HB
 have HB := HT
 clear HT
 go_wp2_with fail
 refine (tacticianref02_Equal.calls 20 _ _ [[iV 1], [iV 2]] _ _ [[iV 1], [iV 2]] true _ HY.out LHY.out HQ.out (Nat.le_refl _) (by decide +kernel)).mono ?_
 rintro e w19 ⟨rfl, hb19⟩
 replace hb19 := below_any hb19
 clear HQ
 have HY_ := Aside0.mk (Kd.C_below HY.out hb19)
 clear HY
 have HY := HY_
 clear HY_
 have HZ_ := Aside0.mk (Kd.C_below HZ.out hb19)
 clear HZ
 have HZ := HZ_
 clear HZ_
 have HOO_ := Aside0.mk (Kd.C_below HOO.out hb19)
 clear HOO
 have HOO := HOO_
 clear HOO_
 have HT := Aside0.mk (below_step HB.out hb19)
 clear HB hb19
 have HB := HT
 clear HT
 clear HY LHY
 go_wp2_with fail
 refine (rowLit1 2 (w19) (by first | rfl | (go_simp; done) | (go_simp; rfl))).mono ?_
 rintro e w20 ⟨A20, c20, rfl, hl20, hC20, hb20⟩
 have HZ_ := Aside0.mk (Kd.C_below HZ.out hb20)
 clear HZ
 have HZ := HZ_
 clear HZ_
 have HOO_ := Aside0.mk (Kd.C_below HOO.out hb20)
 clear HOO
 have HOO := HOO_
 clear HOO_
 have HT := Aside0.mk (below_step HB.out hb20)
 clear HB
 have HB := HT
 clear HT
 have HC20 := Aside0.mk hC20
 have HL20 := Aside0.mk hl20
 clear hC20 hl20 hb20
 have HZ_ := Aside0.mk (Kd.C_below HZ.out (below_alloc (Below.refl _ _) (.cells #[.slice A20 1 c20] 40)))
 clear HZ
 have HZ := HZ_
 clear HZ_
 have HOO_ := Aside0.mk (Kd.C_below HOO.out (below_alloc (Below.refl _ _) (.cells #[.slice A20 1 c20] 40)))
 clear HOO
 have HOO := HOO_
 clear HOO_
 have HC20_ := Aside0.mk (Kd.C_below HC20.out (below_alloc (Below.refl _ _) (.cells #[.slice A20 1 c20] 40)))
 clear HC20
 have HC20 := HC20_
 clear HC20_
 have HQ : Aside0 (Kd.C (Kd.slice 61 k61) (w20.alloc (.cells #[.slice A20 1 c20] 40)) _ 1 [[iV 2]]) := ⟨C_lit rfl (blk_new _ _) (Reps.one (rowK HC20.out HL20.out) (Reps.none _ _)) (show 1 ≤ 1000 by decide)⟩
 clear HC20 HL20
 have HT := Aside0.mk (below_alloc HB.out (.cells #[.slice A20 1 c20] 40))
 clear HB
 have HB := HT
 clear HT
 go_wp2_with fail
 refine (tacticianref02_Equal.calls 20 _ _ [[iV 2]] _ _ [[iV 2]] true _ HZ.out LHZ.out HQ.out (Nat.le_refl _) (by decide +kernel)).mono ?_
 rintro e w21 ⟨rfl, hb21⟩
 replace hb21 := below_any hb21
 clear HQ
 have HZ_ := Aside0.mk (Kd.C_below HZ.out hb21)
 clear HZ
 have HZ := HZ_
 clear HZ_
 have HOO_ := Aside0.mk (Kd.C_below HOO.out hb21)
 clear HOO
 have HOO := HOO_
 clear HOO_
 have HT := Aside0.mk (below_step HB.out hb21)
 clear HB hb21
 have HB := HT
 clear HT
 clear HZ LHZ
 go_wp2_with fail
 refine (rowLit2 1 2 (w21) (by first | rfl | (go_simp; done) | (go_simp; rfl))).mono ?_
 rintro e w22 ⟨A22, c22, rfl, hl22, hC22, hb22⟩
 have HOO_ := Aside0.mk (Kd.C_below HOO.out hb22)
 clear HOO
 have HOO := HOO_
 clear HOO_
 have HT := Aside0.mk (below_step HB.out hb22)
 clear HB
 have HB := HT
 clear HT
 have HC22 := Aside0.mk hC22
 have HL22 := Aside0.mk hl22
 clear hC22 hl22 hb22
 go_wp2_with fail
 refine (rowLit2 1 1 (w22) (by first | rfl | (go_simp; done) | (go_simp; rfl))).mono ?_
 rintro e w23 ⟨A23, c23, rfl, hl23, hC23, hb23⟩
 have HOO_ := Aside0.mk (Kd.C_below HOO.out hb23)
 clear HOO
 have HOO := HOO_
 clear HOO_
 have HC22_ := Aside0.mk (Kd.C_below HC22.out hb23)
 clear HC22
 have HC22 := HC22_
 clear HC22_
 have HT := Aside0.mk (below_step HB.out hb23)
 clear HB
 have HB := HT
 clear HT
 have HC23 := Aside0.mk hC23
 have HL23 := Aside0.mk hl23
 clear hC23 hl23 hb23
 go_wp2_with fail
 refine (rowLit2 2 1 (w23) (by first | rfl | (go_simp; done) | (go_simp; rfl))).mono ?_
 rintro e w24 ⟨A24, c24, rfl, hl24, hC24, hb24⟩
 have HOO_ := Aside0.mk (Kd.C_below HOO.out hb24)
 clear HOO
 have HOO := HOO_
 clear HOO_
 have HC22_ := Aside0.mk (Kd.C_below HC22.out hb24)
 clear HC22
 have HC22 := HC22_
 clear HC22_
 have HC23_ := Aside0.mk (Kd.C_below HC23.out hb24)
 clear HC23
 have HC23 := HC23_
 clear HC23_
 have HT := Aside0.mk (below_step HB.out hb24)
 clear HB
 have HB := HT
 clear HT
 have HC24 := Aside0.mk hC24
 have HL24 := Aside0.mk hl24
 clear hC24 hl24 hb24
 have HOO_ := Aside0.mk (Kd.C_below HOO.out (below_alloc (Below.refl _ _) (.cells #[.slice A22 2 c22, .slice A23 2 c23, .slice A24 2 c24] 40)))
 clear HOO
 have HOO := HOO_
 clear HOO_
 have HC22_ := Aside0.mk (Kd.C_below HC22.out (below_alloc (Below.refl _ _) (.cells #[.slice A22 2 c22, .slice A23 2 c23, .slice A24 2 c24] 40)))
 clear HC22
 have HC22 := HC22_
 clear HC22_
 have HC23_ := Aside0.mk (Kd.C_below HC23.out (below_alloc (Below.refl _ _) (.cells #[.slice A22 2 c22, .slice A23 2 c23, .slice A24 2 c24] 40)))
 clear HC23
 have HC23 := HC23_
 clear HC23_
 have HC24_ := Aside0.mk (Kd.C_below HC24.out (below_alloc (Below.refl _ _) (.cells #[.slice A22 2 c22, .slice A23 2 c23, .slice A24 2 c24] 40)))
 clear HC24
 have HC24 := HC24_
 clear HC24_
 have HQ : Aside0 (Kd.C (Kd.slice 61 k61) (w24.alloc (.cells #[.slice A22 2 c22, .slice A23 2 c23, .slice A24 2 c24] 40)) _ 3 [[iV 1, iV 2], [iV 1, iV 1], [iV 2, iV 1]]) := ⟨C_lit rfl (blk_new _ _) (Reps.one (rowK HC22.out HL22.out) (Reps.one (rowK HC23.out HL23.out) (Reps.one (rowK HC24.out HL24.out) (Reps.none _ _)))) (show 3 ≤ 1000 by decide)⟩
 clear HC22 HL22
 clear HC23 HL23
 clear HC24 HL24
 have HT := Aside0.mk (below_alloc HB.out (.cells #[.slice A22 2 c22, .slice A23 2 c23, .slice A24 2 c24] 40))
 clear HB
 have HB := HT
 clear HT
 go_wp2_with fail
 refine (tacticianref02_Equal.calls 20 _ _ [[iV 1, iV 2], [iV 1, iV 1], [iV 2, iV 1]] _ _ [[iV 1, iV 2], [iV 1, iV 1], [iV 2, iV 1]] true _ HOO.out LHOO.out HQ.out (Nat.le_refl _) (by decide +kernel)).mono ?_
 rintro e w25 ⟨rfl, hb25⟩
 replace hb25 := below_any hb25
 clear HQ
 have HOO_ := Aside0.mk (Kd.C_below HOO.out hb25)
 clear HOO
 have HOO := HOO_
 clear HOO_
 have HT := Aside0.mk (below_step HB.out hb25)
 clear HB hb25
 have HB := HT
 clear HT
 clear HOO LHOO
 go_wp2
 go_ret
 exact ⟨rfl, HB.out⟩
end
end Go.Proofs.YtmhobbdedmjmnaaGreatDoor.Q
end
section
/- Each function reached is shown to return what the plain function beside it computes, wherever that is defined (written by a program of ours for this seat). -/
namespace Go.Proofs.YtmhobbdedmjmnaaGreatDoor.Q
open Go.RowKit Go.Proofs.YtmhobbdedmjmnaaGreatDoorW.PrintWords Go.Proofs.YtmhobbdedmjmnaaGreatDoorW.PrintLast Go.Proofs.YtmhobbdedmjmnaaGreatDoorW.PrintMore
attribute [local go_sem] max2_int min2_int max_two min_two max_three min_three max_four min_four   -- for this text's walks alone
set_option linter.unusedVariables false
set_option linter.unusedSimpArgs false
def tacticianlaw02_CutCols.f (l0 : List (S88)) : Option ((List (S88))) := (some (([] : List (S88)) : List (S88))).bind fun y371 => (if 0 ≤ (mn (l0.length : Int) 18) then (if (mn (l0.length : Int) 18) ≤ (l0.length : Int) then ((some (l0.take ((mn (l0.length : Int) 18) : Int).toNat : List (S88))).bind fun y374 => (if y371.length + y374.length < 8796093022208 then (some (y371 ++ y374)) else (none))) else (none)) else (none))
set_option maxHeartbeats 8000000 in
set_option maxRecDepth 100000 in
theorem tacticianlaw02_CutCols.calls (A0 : Option Addr) (c0 : Nat) (l0 : List (S88)) (r : List (S88)) (w : World) (hr0 : Kd.C k88 w A0 l0.length l0) (hc0 : l0.length ≤ c0) (h : tacticianlaw02_CutCols.f l0 = some r) :
  Calls Tryz.prog 31 #[.slice A0 l0.length c0] w fun e w' => ∃ v0_ : Value, e = .returned (v0_) ∧ Kd.R k88 88 w' w.heap.size (fun _ => True) v0_ r ∧ Below w.heap.size w w' := by
 have HR0 := Aside0.mk hr0
 have HC0 := Aside0.mk hc0
 clear hr0 hc0
 have HB := Aside0.mk (Below.refl w.heap.size w)
 have H : ((some (([] : List (S88)) : List (S88))).bind fun y371 => (if 0 ≤ (mn (l0.length : Int) 18) then (if (mn (l0.length : Int) 18) ≤ (l0.length : Int) then ((some (l0.take ((mn (l0.length : Int) 18) : Int).toNat : List (S88))).bind fun y374 => (if y371.length + y374.length < 8796093022208 then (some (y371 ++ y374)) else (none))) else (none)) else (none))) = some r := h
 clear h
 obtain ⟨y371, hy371⟩ : ∃ y_ : List (S88), y_ = (([] : List (S88))) := ⟨_, rfl⟩
 replace H : (if 0 ≤ (mn (l0.length : Int) 18) then (if (mn (l0.length : Int) 18) ≤ (l0.length : Int) then ((some (l0.take ((mn (l0.length : Int) 18) : Int).toNat : List (S88))).bind fun y374 => (if y371.length + y374.length < 8796093022208 then (some (y371 ++ y374)) else (none))) else (none)) else (none)) = some r := by first | (rw [hy371]; with_reducible exact H) | (have H2_ := (Option.bind_some _ _).symm.trans H; rw [hy371]; with_reducible exact H2_) | (have H2_ := (Option.bind_some _ _).symm.trans H; with_reducible exact H2_) | with_reducible exact H | (rw [hy371]; exact H) | exact H
 have Ny371 := Aside0.mk hy371
 clear hy371
 obtain ⟨ji2, hji2⟩ : ∃ j_ : Int, (mn (l0.length : Int) 18) = j_ := ⟨_, rfl⟩
 replace H : (if 0 ≤ (ji2) then (if (ji2) ≤ (l0.length : Int) then ((some (l0.take ((ji2) : Int).toNat : List (S88))).bind fun y374 => (if y371.length + y374.length < 8796093022208 then (some (y371 ++ y374)) else (none))) else (none)) else (none)) = some r := by first | (rw [hji2] at H; exact H) | (simp only [hji2] at H ⊢; exact H)
 (try (have hji2h : ji2 ≤ 18 := by (rw [← hji2]; unfold mn; (repeat' split) <;> omega)))
 (try (have hji2g : ji2 ≤ 64 := by omega))
 (try (have hji2l : 0 ≤ ji2 := by (rw [← hji2]; unfold mn; (repeat' split) <;> omega)))
 (try (have hji2m : 0 ≤ ji2 := by omega))
 have hji2_ : (if 18 < (l0.length : Int) then 18 else (l0.length : Int)) = ji2 := hji2
 by_cases c3 : 0 ≤ (ji2)
 ·rw [if_pos c3] at H
  have c3b0 := eq_true c3
  have c3b1 : decide (0 ≤ (ji2)) = true := decide_eq_true c3
  clear c3
  by_cases c4 : (ji2) ≤ (l0.length : Int)
  ·rw [if_pos c4] at H
   have c4b0 := eq_true c4
   have c4b1 : decide ((ji2) ≤ (l0.length : Int)) = true := decide_eq_true c4
   clear c4
   obtain ⟨y374, hy374⟩ : ∃ y_ : List (S88), y_ = (l0.take ((ji2) : Int).toNat) := ⟨_, rfl⟩
   replace H : (if y371.length + y374.length < 8796093022208 then (some (y371 ++ y374)) else (none)) = some r := by first | (rw [hy374]; with_reducible exact H) | (have H2_ := (Option.bind_some _ _).symm.trans H; rw [hy374]; with_reducible exact H2_) | (have H2_ := (Option.bind_some _ _).symm.trans H; with_reducible exact H2_) | with_reducible exact H | (rw [hy374]; exact H) | exact H
   have Ny374 := Aside0.mk hy374
   clear hy374
   by_cases c5 : y371.length + y374.length < 8796093022208
   ·rw [if_pos c5] at H
    have LMc5 := Aside0.mk c5
    clear c5
    obtain ⟨y378, hy378⟩ : ∃ y_ : List (S88), y_ = (y371 ++ y374) := ⟨_, rfl⟩
    replace H : (some y378) = some r := by first | (rw [hy378]; with_reducible exact H) | (have H2_ := (Option.bind_some _ _).symm.trans H; rw [hy378]; with_reducible exact H2_) | (have H2_ := (Option.bind_some _ _).symm.trans H; with_reducible exact H2_) | with_reducible exact H | (rw [hy378]; exact H) | exact H
    have Ny378 := Aside0.mk hy378
    clear hy378
    obtain rfl := Option.some.inj H
    go_enter Tryz.func31, Tryz.ntmps31
    go_wp2_with (first | ((with_reducible refine gate_dst (N := 3) rfl ?_); refine Kd.R_lit k88 _ 88 ?hg (N := 3) ?hd (xs := ([] : List (S88))) (inner := []) (ok := fun _ => True) (okp := fun _ => True) ?hr ?hp (fun _ hk => hk) trivial (Below.refl _ _) (Nat.le_refl _) (by simp) ?_; (case hd => rfl); (case hg => rfl); (case hr => first | (go_simp; done) | (go_simp; rfl)); (case hp => exact (Reps.none _ _)); intro v372 w6 ho7 hb hg_ hnew_; clear hg_ hnew_; (first | rw [← Ny371.out] at ho7 | (simp only [Int.reduceToNat] at ho7; rw [← Ny371.out] at ho7)); have n0_ := Aside0.mk (Kd.R_lower ho7 (below_size (by repeat (first | (with_reducible first | exact HB.out | apply yA | apply yN | apply yD) | exact HB.out)))); have n1_ := Aside0.mk (below_step (by repeat (first | (with_reducible first | exact HB.out | apply yA | apply yN | apply yD) | exact HB.out)) hb); clear HB; have HO373 := n0_; have HB := n1_; clear n0_ n1_; clear hb ho7; have q8 : ((ji2) : Int) ≤ ((l0.length : Int) : Int) := of_decide_eq_true (by first | (with_reducible assumption) | assumption); obtain ⟨i08, hi08, _, hsz8, _⟩ := info_parts info88; have hroom8 : l0.length ≤ c0 := HC0.out; have hC8 : Kd.C k88 _ A0 l0.length l0 := HR0.out; have hcut8 := cut_to (P := Tryz.prog) 49 88 .i64 Tryz.underlying49 hi08 A0 l0.length c0 (ji2) (of_decide_eq_true (by first | (with_reducible assumption) | assumption)) q8 hroom8; have hr8 := Kd.C_take (m := ((ji2) : Int).toNat) hC8 (by omega); have hy8 : y374.length = ((ji2) : Int).toNat := (by rw [Ny374.out, List.length_take]; omega); rw [← Ny374.out] at hr8; rw [← hy8] at hcut8; have HR377 := Aside0.mk hr8; have HC377 := Aside0.mk (show y374.length ≤ c0 from by omega); clear hr8 hC8 hroom8 hi08 hsz8; have KY8 := Aside0.mk hy8; clear hy8; replace q8 := eq_true q8) | ((with_reducible refine gate_builtin (b := .append) (xs := #[.tmp 3, .tmp 8]) rfl ?_); at_builtin; refine Kd.R_append_rows k88 (w0 := w) w.heap.size rfl (.tmp 3) (.tmp 8) 49 88 (.agg #[(.int .i64 0), (.bool false)]) 16 rfl Tryz.underlying49 info88 rfl (by decide) (by omega) v372 y371 y374 _ _ _ (fun _ => True) (fun _ => False) rfl rfl ?aO ?aR (fun _ _ h => h) (fun _ h => h.elim) ?aF ?aB ?aS ?aL ?_; (case aR => repeat (first | exact (Kd.C_below HR377.out HB.out) | (with_reducible refine Kd.C_alloc ?_ _) | (with_reducible refine Kd.C_drewN ?_ _) | (with_reducible refine Kd.C_drew ?_))); (case aB => exact (by repeat (first | (with_reducible first | exact HB.out | apply yA | apply yN | apply yD) | exact HB.out))); (case aF => exact (fun _ _ => trivial)); (case aO => exact (by (with_reducible repeat (first | apply Kd.R_alloc | apply Kd.R_drewN | apply Kd.R_drew)); exact HO373.out)); (case aS => exact (below_size (by repeat (first | (with_reducible first | exact HB.out | apply yA | apply yN | apply yD) | exact HB.out)))); (case aL => have := LMc5.out; omega); intro v379 w9 ho hb hg hat; rw [← Ny378.out] at ho; have n0_ := Aside0.mk (hb); have n1_ := Aside0.mk (ho); clear HB; clear HO373; have HB := n0_; have HO380 := n1_; clear n0_ n1_; clear ho hb hg hat))
    go_ret
    exact ⟨_, by first | rfl | (simp [errW_none, errW_some] <;> rfl) | (simp only [← hji2]; first | rfl | (simp [errW_none, errW_some] <;> rfl)) | (simp [*, errW_none, errW_some] <;> rfl), by (with_reducible repeat (first | apply Kd.R_alloc | apply Kd.R_drewN | apply Kd.R_drew)); exact HO380.out, by repeat (first | (with_reducible first | exact HB.out | apply yA | apply yN | apply yD) | exact HB.out)⟩
   ·rw [if_neg c5] at H
    exact absurd H (by simp)
  ·rw [if_neg c4] at H
   exact absurd H (by simp)
 ·rw [if_neg c3] at H
  exact absurd H (by simp)
end Go.Proofs.YtmhobbdedmjmnaaGreatDoor.Q
end
section
/- Each function reached is shown to return what the plain function beside it computes, wherever that is defined (written by a program of ours for this seat). -/
namespace Go.Proofs.YtmhobbdedmjmnaaGreatDoor.Q
open Go.RowKit Go.Proofs.YtmhobbdedmjmnaaGreatDoorW.PrintWords Go.Proofs.YtmhobbdedmjmnaaGreatDoorW.PrintLast Go.Proofs.YtmhobbdedmjmnaaGreatDoorW.PrintMore
attribute [local go_sem] max2_int min2_int max_two min_two max_three min_three max_four min_four   -- for this text's walks alone
set_option linter.unusedVariables false
set_option linter.unusedSimpArgs false
mutual
def tacticianlaw02_RowsForms.j0 : Nat → List (S88) → List (List (S61)) → Int → Option (Bool)
  | 0, _, _, _ => none
  | k + 1, x7, x8, x9 => if x9 = 0 then ((tacticianref02_Cols.f k x7).bind fun t409 => (tacticianlaw02_RowsForms.j1 k x7 x8 t409)) else (tacticianlaw02_RowsForms.j1 k x7 x8 x9)
def tacticianlaw02_RowsForms.j1 : Nat → List (S88) → List (List (S61)) → Int → Option (Bool)
  | 0, _, _, _ => none
  | k + 1, x7, x8, x9 => if x9 = 0 then ((tacticianref02_AllFit.f k x7 x8).bind fun t410 => (tacticianlaw02_RowsForms.j2 k x7 x8 x9 (!t410))) else (tacticianlaw02_RowsForms.j2 k x7 x8 x9 false)
def tacticianlaw02_RowsForms.j2 : Nat → List (S88) → List (List (S61)) → Int → Bool → Option (Bool)
  | 0, _, _, _, _ => none
  | k + 1, x7, x8, x9, x32 => if x32 = true then (tacticianlaw02_RowsForms.j3 k x7 x8 20) else (tacticianlaw02_RowsForms.j3 k x7 x8 x9)
def tacticianlaw02_RowsForms.j3 : Nat → List (S88) → List (List (S61)) → Int → Option (Bool)
  | 0, _, _, _ => none
  | k + 1, x7, x8, x9 => (rows_CheckCols.f x7).bind fun t411 => ((tacticianref02_Cols.f k x7).bind fun t412 => (if t411 = t412 then ((rows_Check.f x7 x8).bind fun t413 => (if t413 = x9 then ((tacticianlaw02_awake.f).bind fun t414 => (some t414)) else (some false))) else (some false)))
end
def tacticianlaw02_RowsForms.f (k : Nat) (l0 : List (S88)) (l1 : List (List (S61))) (a2 : Bool) : Option (Bool) := (tacticianlaw02_CutCols.f l0).bind fun t399 => ((tacticianlaw02_Cut.f k l1 30).bind fun t402 => ((tacticianlaw02_long.f k t402 a2).bind fun t405 => ((tacticianref02_List.f k t405 ([] : List (List (S61)))).bind fun t408 => (if (t399.length : Int) > 16 then (tacticianlaw02_RowsForms.j0 k t399 t405 2) else (tacticianlaw02_RowsForms.j0 k t399 t405 t408)))))
set_option maxHeartbeats 8000000 in
set_option maxRecDepth 100000 in
theorem tacticianlaw02_RowsForms.calls (k : Nat) (A0 : Option Addr) (c0 : Nat) (l0 : List (S88)) (A1 : Option Addr) (c1 : Nat) (l1 : List (List (S61))) (a2 : Bool) (r : Bool) (w : World) (hr0 : Kd.C k88 w A0 l0.length l0) (hc0 : l0.length ≤ c0) (hr1 : Kd.C (Kd.slice 61 k61) w A1 l1.length l1) (hc1 : l1.length ≤ c1) (hL_ : Laid w) (hr_ : Aside0 (r = true)) (h : tacticianlaw02_RowsForms.f k l0 l1 a2 = some r) :
  Calls Tryz.prog 6 #[.slice A0 l0.length c0, .slice A1 l1.length c1, .bool a2] w fun e w' => e = .returned (.bool r) ∧ Below w.heap.size w w' := by
 have HLD := Aside0.mk hL_
 clear hL_
 have HR0 := Aside0.mk hr0
 have HC0 := Aside0.mk hc0
 clear hr0 hc0
 have HR1 := Aside0.mk hr1
 have HC1 := Aside0.mk hc1
 clear hr1 hc1
 have HB := Aside0.mk (Below.refl w.heap.size w)
 have H : ((tacticianlaw02_CutCols.f l0).bind fun t399 => ((tacticianlaw02_Cut.f k l1 30).bind fun t402 => ((tacticianlaw02_long.f k t402 a2).bind fun t405 => ((tacticianref02_List.f k t405 ([] : List (List (S61)))).bind fun t408 => (if (t399.length : Int) > 16 then (tacticianlaw02_RowsForms.j0 k t399 t405 2) else (tacticianlaw02_RowsForms.j0 k t399 t405 t408)))))) = some r := h
 clear h
 replace H := Option.bind_eq_some_iff.mp H
 obtain ⟨t399, A40, H⟩ := H
 replace H : ((tacticianlaw02_Cut.f k l1 30).bind fun t402 => ((tacticianlaw02_long.f k t402 a2).bind fun t405 => ((tacticianref02_List.f k t405 ([] : List (List (S61)))).bind fun t408 => (if (t399.length : Int) > 16 then (tacticianlaw02_RowsForms.j0 k t399 t405 2) else (tacticianlaw02_RowsForms.j0 k t399 t405 t408))))) = some r := H
 have A4 := Aside0.mk A40
 clear A40
 replace H := Option.bind_eq_some_iff.mp H
 obtain ⟨t402, A50, H⟩ := H
 replace H : ((tacticianlaw02_long.f k t402 a2).bind fun t405 => ((tacticianref02_List.f k t405 ([] : List (List (S61)))).bind fun t408 => (if (t399.length : Int) > 16 then (tacticianlaw02_RowsForms.j0 k t399 t405 2) else (tacticianlaw02_RowsForms.j0 k t399 t405 t408)))) = some r := H
 have A5 := Aside0.mk A50
 clear A50
 replace H := Option.bind_eq_some_iff.mp H
 obtain ⟨t405, A60, H⟩ := H
 replace H : ((tacticianref02_List.f k t405 ([] : List (List (S61)))).bind fun t408 => (if (t399.length : Int) > 16 then (tacticianlaw02_RowsForms.j0 k t399 t405 2) else (tacticianlaw02_RowsForms.j0 k t399 t405 t408))) = some r := H
 have A6 := Aside0.mk A60
 clear A60
 replace H := Option.bind_eq_some_iff.mp H
 obtain ⟨t408, A70, H⟩ := H
 replace H : (if (t399.length : Int) > 16 then (tacticianlaw02_RowsForms.j0 k t399 t405 2) else (tacticianlaw02_RowsForms.j0 k t399 t405 t408)) = some r := H
 have A7 := Aside0.mk A70
 clear A70
 have HC8 := Aside0.mk H
 clear H
 go_enter Tryz.func6, Tryz.ntmps6
 go_upto_if 20 with (first | ((with_reducible refine gate_callee (f := 31) rfl ?_); refine goesL_ (some 11) rfl rfl Tryz.func31 (by kernel_rfl) rfl #[.slice A0 l0.length c0] rfl (by (try simp only [List.map_toArray, List.map_cons, List.map_nil]); first | done | rfl | (simp only [List.length_drop, List.length_take]; rfl)) ?_; (with_reducible refine (tacticianlaw02_CutCols.calls _ _ l0 t399 _ ?side1 ?side2 A4.out).mono ?_); (case side1 => repeat (first | exact HR0.out | (with_reducible refine Kd.C_alloc ?_ _) | (with_reducible refine Kd.C_drewN ?_ _) | (with_reducible refine Kd.C_drew ?_))); (case side2 => exact HC0.out); rintro e w9 ⟨v400, rfl, ho0, hb⟩; refine ⟨_, rfl, ?_⟩; have n0_ := Aside0.mk (Kd.R_lower ho0 (below_size (by repeat (first | (with_reducible first | exact HB.out | apply yA | apply yN | apply yD) | exact HB.out)))); have n1_ := Aside0.mk (below_step (by repeat (first | (with_reducible first | exact HB.out | apply yA | apply yN | apply yD) | exact HB.out)) hb); clear HB; have HO401 := n0_; have HB := n1_; clear n0_ n1_; (try clear hb); (try clear hb2); (try clear hk); (try clear hi); (try clear ho0)) | ((with_reducible refine gate_callee (f := 14) rfl ?_); refine goesL_ (some 13) rfl rfl Tryz.func14 (by kernel_rfl) rfl #[.slice A1 l1.length c1, .int .i64 30] rfl (by (try simp only [List.map_toArray, List.map_cons, List.map_nil]); first | done | rfl | (simp only [List.length_drop, List.length_take]; rfl)) ?_; (with_reducible refine (tacticianlaw02_Cut.calls k _ _ l1 30 t402 _ ?side1 ?side2 A5.out).mono ?_); (case side1 => repeat (first | exact (Kd.C_below HR1.out HB.out) | (with_reducible refine Kd.C_alloc ?_ _) | (with_reducible refine Kd.C_drewN ?_ _) | (with_reducible refine Kd.C_drew ?_))); (case side2 => exact HC1.out); rintro e w10 ⟨v403, rfl, ho0, hb⟩; refine ⟨_, rfl, ?_⟩; have n0_ := Aside0.mk (Kd.R_below (by (with_reducible repeat (first | apply Kd.R_alloc | apply Kd.R_drewN | apply Kd.R_drew)); exact HO401.out) hb); have n1_ := Aside0.mk (Kd.N_lower (Kd.N_mono (ok' := fun k_ => some k_ ≠ (v400 : Value).ownBlock) (Kd.S_N (Kd.S_bound ho0)) (fun k_ hk_ => (Kd.fresh' (Kd.R_lt (by (with_reducible repeat (first | apply Kd.R_alloc | apply Kd.R_drewN | apply Kd.R_drew)); exact HO401.out)) k_ hk_.2.1))) (below_size (by repeat (first | (with_reducible first | exact HB.out | apply yA | apply yN | apply yD) | exact HB.out)))); have n2_ := Aside0.mk (below_step (by repeat (first | (with_reducible first | exact HB.out | apply yA | apply yN | apply yD) | exact HB.out)) hb); clear HO401; clear HB; have HO401 := n0_; have HO404 := n1_; have HB := n2_; clear n0_ n1_ n2_; (try clear hb); (try clear hb2); (try clear hk); (try clear hi); (try clear ho0); obtain ⟨Ao11, co11, eo11⟩ := Kd.N_slice HO404.out; subst eo11) | ((with_reducible refine gate_callee (f := 26) rfl ?_); refine goesL_ (some 15) rfl rfl Tryz.func26 (by kernel_rfl) rfl #[.slice Ao11 t402.length co11, .bool a2] rfl (by (try simp only [List.map_toArray, List.map_cons, List.map_nil]); first | done | rfl | (simp only [List.length_drop, List.length_take]; rfl)) ?_; (with_reducible refine (tacticianlaw02_long.calls k (fun k_ => some k_ ≠ (v400 : Value).ownBlock) _ _ t402 a2 t405 _ ?side1 A6.out).mono ?_); (case side1 => exact Kd.N_V (HO404.out)); rintro e w12 ⟨v406, rfl, ho0, hb⟩; refine ⟨_, rfl, ?_⟩; have n0_ := Aside0.mk (Kd.R_below (by (with_reducible repeat (first | apply Kd.R_alloc | apply Kd.R_drewN | apply Kd.R_drew)); exact HO401.out) hb); have n1_ := Aside0.mk (Kd.N_elder' (by (with_reducible repeat (first | apply Kd.N_alloc | apply Kd.N_drewN | apply Kd.N_drew)); exact HO404.out) (Kd.N_base ho0) hb); have n2_ := Aside0.mk (Kd.N_lower (Kd.N_mono (ok' := fun k_ => some k_ ≠ (v400 : Value).ownBlock) ho0 (fun k_ hk_ => Or.elim hk_ (fun hs_ => hs_) (fun hn_ => (Kd.fresh' (Kd.R_lt (by (with_reducible repeat (first | apply Kd.R_alloc | apply Kd.R_drewN | apply Kd.R_drew)); exact HO401.out)) k_ hn_)))) (below_size (by repeat (first | (with_reducible first | exact HB.out | apply yA | apply yN | apply yD) | exact HB.out)))); have n3_ := Aside0.mk (below_step (by repeat (first | (with_reducible first | exact HB.out | apply yA | apply yN | apply yD) | exact HB.out)) hb); clear HO401; clear HO404; clear HB; have HO401 := n0_; have HO404 := n1_; have HO407 := n2_; have HB := n3_; clear n0_ n1_ n2_ n3_; (try clear hb); (try clear hb2); (try clear hk); (try clear hi); (try clear ho0); obtain ⟨Ao13, co13, eo13⟩ := Kd.N_slice HO407.out; subst eo13) | ((with_reducible refine gate_callee (f := 17) rfl ?_); refine goesL_ (some 17) rfl rfl Tryz.func17 (by kernel_rfl) rfl #[.slice Ao13 t405.length co13, .slice none 0 0] rfl (by (try simp only [List.map_toArray, List.map_cons, List.map_nil]); first | done | rfl | (simp only [List.length_drop, List.length_take]; rfl)) ?_; (refine (tacticianref02_List.calls k _ _ t405 _ _ ([] : List (List (S61))) t408 _ ?side1 ?side2 ?side3 ?side4 A7.out).mono ?_); (case side1 => repeat (first | exact (Kd.N_reads' HO407.out).2.2 | (with_reducible refine Kd.C_alloc ?_ _) | (with_reducible refine Kd.C_drewN ?_ _) | (with_reducible refine Kd.C_drew ?_))); (case side2 => exact (Kd.N_reads' HO407.out).2.1); (case side3 => exact Kd.C_nil _ _); (case side4 => exact Nat.le_refl _); rintro e w14 ⟨rfl, hb⟩; refine ⟨_, rfl, ?_⟩; have n0_ := Aside0.mk (Kd.R_below (by (with_reducible repeat (first | apply Kd.R_alloc | apply Kd.R_drewN | apply Kd.R_drew)); exact HO401.out) hb); have n1_ := Aside0.mk (Kd.N_below (by (with_reducible repeat (first | apply Kd.N_alloc | apply Kd.N_drewN | apply Kd.N_drew)); exact HO404.out) hb); have n2_ := Aside0.mk (Kd.N_below (by (with_reducible repeat (first | apply Kd.N_alloc | apply Kd.N_drewN | apply Kd.N_drew)); exact HO407.out) hb); have n3_ := Aside0.mk (below_step (by repeat (first | (with_reducible first | exact HB.out | apply yA | apply yN | apply yD) | exact HB.out)) hb); clear HO401; clear HO404; clear HO407; clear HB; have HO401 := n0_; have HO404 := n1_; have HO407 := n2_; have HB := n3_; clear n0_ n1_ n2_ n3_; (try clear hb); (try clear hb2); (try clear hk); (try clear hi); obtain ⟨Ao15, co15, eo15⟩ := Kd.R_slice HO401.out; subst eo15))
 (try simp only [Act.put, List.setIfInBounds_toArray, List.set_cons_zero, List.set_cons_succ])
 go_cut [9] (fun v9 wc => ∃ (kq : Nat) (x9_7 : Int), v9 = .int .i64 x9_7 ∧ Aside0 (tacticianlaw02_RowsForms.j0 kq t399 t405 x9_7 = some r) ∧ Aside0 (kq ≤ k) ∧ Aside0 (Kd.R k88 88 wc w.heap.size (fun _ => True) (.slice Ao15 t399.length co15) t399) ∧ Aside0 (Kd.N (Kd.slice 61 k61) 40 wc w.heap.size (fun k_ => some k_ ≠ ((.slice Ao15 t399.length co15) : Value).ownBlock) (.slice Ao13 t405.length co13) t405) ∧ Aside0 (Below w.heap.size w wc))
 case first =>
  have H := HC8.out
  clear HC8
  by_cases c16 : (t399.length : Int) > 16
  ·rw [if_pos c16] at H
   have c16b0 : decide (16 < (t399.length : Int)) = true := decide_eq_true c16
   have c16b1 : decide (16 < t399.length) = true := decide_eq_true (by omega)
   clear c16
   (first | rw [c16b0] | (simp only [i64_w, i32_w]; rw [c16b0]) | skip)
   have H' := Aside0.mk H
   clear H
   go_wp2
   go_meet
   case rel => exact ⟨_, (2), (by first | rfl | (simp; done) | (simp [*]; done)), H', ⟨by first | omega | exact Nat.le_refl _⟩, ⟨by (with_reducible repeat (first | apply Kd.R_alloc | apply Kd.R_drewN | apply Kd.R_drew)); exact HO401.out⟩, ⟨by (with_reducible repeat (first | apply Kd.N_alloc | apply Kd.N_drewN | apply Kd.N_drew)); exact HO407.out⟩, ⟨by repeat (first | (with_reducible first | exact HB.out | apply yA | apply yN | apply yD) | exact HB.out)⟩⟩
  ·rw [if_neg c16] at H
   have c16b0 : decide (16 < (t399.length : Int)) = false := decide_eq_false c16
   have c16b1 : decide (16 < t399.length) = false := decide_eq_false (by omega)
   clear c16
   (first | rw [c16b0] | (simp only [i64_w, i32_w]; rw [c16b0]) | skip)
   have H' := Aside0.mk H
   clear H
   go_wp2
   go_meet
   case rel => exact ⟨_, (t408), (by first | rfl | (simp; done) | (simp [*]; done)), H', ⟨by first | omega | exact Nat.le_refl _⟩, ⟨by (with_reducible repeat (first | apply Kd.R_alloc | apply Kd.R_drewN | apply Kd.R_drew)); exact HO401.out⟩, ⟨by (with_reducible repeat (first | apply Kd.N_alloc | apply Kd.N_drewN | apply Kd.N_drew)); exact HO407.out⟩, ⟨by repeat (first | (with_reducible first | exact HB.out | apply yA | apply yN | apply yD) | exact HB.out)⟩⟩
 case rest =>
  clear HC8
  try clear c1
  try clear c2
  try clear p2
  try clear c3
  try clear c6
  try clear c14
  try clear c16
  try clear c16b0
  try clear c16b1
  obtain ⟨kq, x9_7, rfl, HA, HJ7, HO_7, HO_8, HB⟩ := hcut
  cases kq with
  | zero => exact absurd HA.out (by simp [tacticianlaw02_RowsForms.j0])
  | succ kj7 =>
   have H := HA.out
   clear HA
   simp only [tacticianlaw02_RowsForms.j0] at H
   have HC17 := Aside0.mk H
   clear H
   go_upto_if 22 with (fail)
   go_cut [9] (fun v9 wc => ∃ (kq : Nat) (x9_16 : Int), v9 = .int .i64 x9_16 ∧ Aside0 (tacticianlaw02_RowsForms.j1 kq t399 t405 x9_16 = some r) ∧ Aside0 (kq ≤ kj7) ∧ Aside0 (Kd.R k88 88 wc w.heap.size (fun _ => True) (.slice Ao15 t399.length co15) t399) ∧ Aside0 (Kd.N (Kd.slice 61 k61) 40 wc w.heap.size (fun k_ => some k_ ≠ ((.slice Ao15 t399.length co15) : Value).ownBlock) (.slice Ao13 t405.length co13) t405) ∧ Aside0 (Below w.heap.size w wc))
   case first =>
    have H := HC17.out
    clear HC17
    by_cases c18 : x9_7 = 0
    ·rw [if_pos c18] at H
     have c18b0 : (x9_7 == 0) = true := beq_iff_eq.mpr c18
     have c18b1 : (x9_7 != 0) = false := bne_eq_false_iff_eq.mpr c18
     clear c18
     (first | rw [c18b0] | (simp only [i64_w, i32_w]; rw [c18b0]) | skip)
     replace H := Option.bind_eq_some_iff.mp H
     obtain ⟨t409, A190, H⟩ := H
     replace H : (tacticianlaw02_RowsForms.j1 kj7 t399 t405 t409) = some r := H
     have A19 := Aside0.mk A190
     clear A190
     have H' := Aside0.mk H
     clear H
     go_wp2_with (first | ((with_reducible refine gate_callee (f := 32) rfl ?_); refine goesL_ (some 24) rfl rfl Tryz.func32 (by kernel_rfl) rfl #[.slice Ao15 t399.length co15] rfl (by (try simp only [List.map_toArray, List.map_cons, List.map_nil]); first | done | rfl | (simp only [List.length_drop, List.length_take]; rfl)) ?_; (with_reducible refine (tacticianref02_Cols.calls kj7 _ _ t399 t409 _ ?side1 ?side2 A19.out).mono ?_); (case side1 => repeat (first | exact (Kd.R_reads' HO_7.out).2.2 | (with_reducible refine Kd.C_alloc ?_ _) | (with_reducible refine Kd.C_drewN ?_ _) | (with_reducible refine Kd.C_drew ?_))); (case side2 => exact (Kd.R_reads' HO_7.out).2.1); rintro e w' ⟨rfl, ⟨nd, rfl⟩⟩; refine ⟨_, rfl, ?_⟩))
     go_meet
     case rel => exact ⟨_, (t409), (by first | rfl | (simp; done) | (simp [*]; done)), H', ⟨by have := HJ7.out; first | omega | exact Nat.le_refl _⟩, ⟨by (with_reducible repeat (first | apply Kd.R_alloc | apply Kd.R_drewN | apply Kd.R_drew)); exact HO_7.out⟩, ⟨by (with_reducible repeat (first | apply Kd.N_alloc | apply Kd.N_drewN | apply Kd.N_drew)); exact HO_8.out⟩, ⟨by repeat (first | (with_reducible first | exact HB.out | apply yA | apply yN | apply yD) | exact HB.out)⟩⟩
    ·rw [if_neg c18] at H
     have c18b0 : (x9_7 == 0) = false := beq_eq_false_iff_ne.mpr c18
     have c18b1 : (x9_7 != 0) = true := bne_iff_ne.mpr c18
     (first | rw [c18b0] | (simp only [i64_w, i32_w]; rw [c18b0]) | skip)
     have H' := Aside0.mk H
     clear H
     go_wp2
     go_meet
     case rel => exact ⟨_, (x9_7), (by first | rfl | (simp; done) | (simp [*]; done)), H', ⟨by have := HJ7.out; first | omega | exact Nat.le_refl _⟩, ⟨by (with_reducible repeat (first | apply Kd.R_alloc | apply Kd.R_drewN | apply Kd.R_drew)); exact HO_7.out⟩, ⟨by (with_reducible repeat (first | apply Kd.N_alloc | apply Kd.N_drewN | apply Kd.N_drew)); exact HO_8.out⟩, ⟨by repeat (first | (with_reducible first | exact HB.out | apply yA | apply yN | apply yD) | exact HB.out)⟩⟩
   case rest =>
    clear HC17
    try clear c1
    try clear c2
    try clear p2
    try clear c3
    try clear c6
    try clear c14
    try clear c16
    try clear c16b0
    try clear c16b1
    try clear c17
    try clear c18
    try clear c18b0
    try clear c18b1
    try clear p2
    obtain ⟨kq, x9_16, rfl, HA, HJ16, HO_7, HO_8, HB⟩ := hcut
    cases kq with
    | zero => exact absurd HA.out (by simp [tacticianlaw02_RowsForms.j1])
    | succ kj16 =>
     have H := HA.out
     clear HA
     simp only [tacticianlaw02_RowsForms.j1] at H
     have HC20 := Aside0.mk H
     clear H
     go_upto_region 7 with (fail)
     go_cut [32] (fun v32 wc => ∃ (kq : Nat) (x32_19 : Bool), v32 = .bool x32_19 ∧ Aside0 (tacticianlaw02_RowsForms.j2 kq t399 t405 x9_16 x32_19 = some r) ∧ Aside0 (kq ≤ kj16) ∧ Aside0 (Kd.R k88 88 wc w.heap.size (fun _ => True) (.slice Ao15 t399.length co15) t399) ∧ Aside0 (Kd.N (Kd.slice 61 k61) 40 wc w.heap.size (fun k_ => some k_ ≠ ((.slice Ao15 t399.length co15) : Value).ownBlock) (.slice Ao13 t405.length co13) t405) ∧ Aside0 (Below w.heap.size w wc))
     case first =>
      have H := HC20.out
      clear HC20
      by_cases c21 : x9_16 = 0
      ·rw [if_pos c21] at H
       have c21b0 : (x9_16 == 0) = true := beq_iff_eq.mpr c21
       have c21b1 : (x9_16 != 0) = false := bne_eq_false_iff_eq.mpr c21
       clear c21
       (first | rw [c21b0] | (simp only [i64_w, i32_w]; rw [c21b0]) | skip)
       replace H := Option.bind_eq_some_iff.mp H
       obtain ⟨t410, A220, H⟩ := H
       replace H : (tacticianlaw02_RowsForms.j2 kj16 t399 t405 x9_16 (!t410)) = some r := H
       have A22 := Aside0.mk A220
       clear A220
       have H' := Aside0.mk H
       clear H
       go_wp2_with (first | (go_at_call 33; (with_reducible refine (tacticianref02_AllFit.calls kj16 _ _ t399 _ _ t405 t410 _ ?side1 ?side2 ?side3 ?side4 A22.out).mono ?_); (case side1 => repeat (first | exact (Kd.R_reads' HO_7.out).2.2 | (with_reducible refine Kd.C_alloc ?_ _) | (with_reducible refine Kd.C_drewN ?_ _) | (with_reducible refine Kd.C_drew ?_))); (case side2 => exact (Kd.R_reads' HO_7.out).2.1); (case side3 => repeat (first | exact (Kd.N_reads' HO_8.out).2.2 | (with_reducible refine Kd.C_alloc ?_ _) | (with_reducible refine Kd.C_drewN ?_ _) | (with_reducible refine Kd.C_drew ?_))); (case side4 => exact (Kd.N_reads' HO_8.out).2.1); rintro e w23 ⟨rfl, hb⟩; have n0_ := Aside0.mk (Kd.R_below (by (with_reducible repeat (first | apply Kd.R_alloc | apply Kd.R_drewN | apply Kd.R_drew)); exact HO_7.out) hb); have n1_ := Aside0.mk (Kd.N_below (by (with_reducible repeat (first | apply Kd.N_alloc | apply Kd.N_drewN | apply Kd.N_drew)); exact HO_8.out) hb); have n2_ := Aside0.mk (below_step (by repeat (first | (with_reducible first | exact HB.out | apply yA | apply yN | apply yD) | exact HB.out)) hb); clear HO_7; clear HO_8; clear HB; have HO_7 := n0_; have HO_8 := n1_; have HB := n2_; clear n0_ n1_ n2_; (try clear hb); (try clear hb2); (try clear hk); (try clear hi)))
       go_meet
       case rel => exact ⟨_, (!t410), (by first | rfl | (simp; done) | (simp [*]; done)), H', ⟨by have := HJ7.out; have := HJ16.out; first | omega | exact Nat.le_refl _⟩, ⟨by (with_reducible repeat (first | apply Kd.R_alloc | apply Kd.R_drewN | apply Kd.R_drew)); exact HO_7.out⟩, ⟨by (with_reducible repeat (first | apply Kd.N_alloc | apply Kd.N_drewN | apply Kd.N_drew)); exact HO_8.out⟩, ⟨by repeat (first | (with_reducible first | exact HB.out | apply yA | apply yN | apply yD) | exact HB.out)⟩⟩
      ·rw [if_neg c21] at H
       have c21b0 : (x9_16 == 0) = false := beq_eq_false_iff_ne.mpr c21
       have c21b1 : (x9_16 != 0) = true := bne_iff_ne.mpr c21
       (first | rw [c21b0] | (simp only [i64_w, i32_w]; rw [c21b0]) | skip)
       have H' := Aside0.mk H
       clear H
       go_wp2
       go_meet
       case rel => exact ⟨_, (false), (by first | rfl | (simp; done) | (simp [*]; done)), H', ⟨by have := HJ7.out; have := HJ16.out; first | omega | exact Nat.le_refl _⟩, ⟨by (with_reducible repeat (first | apply Kd.R_alloc | apply Kd.R_drewN | apply Kd.R_drew)); exact HO_7.out⟩, ⟨by (with_reducible repeat (first | apply Kd.N_alloc | apply Kd.N_drewN | apply Kd.N_drew)); exact HO_8.out⟩, ⟨by repeat (first | (with_reducible first | exact HB.out | apply yA | apply yN | apply yD) | exact HB.out)⟩⟩
     case rest =>
      clear HC20
      try clear c1
      try clear c2
      try clear p2
      try clear c3
      try clear c6
      try clear c14
      try clear c16
      try clear c16b0
      try clear c16b1
      try clear c17
      try clear c18
      try clear c18b0
      try clear c18b1
      try clear c21
      try clear c21b0
      try clear c21b1
      try clear p2
      obtain ⟨kq, x32_19, rfl, HA, HJ19, HO_7, HO_8, HB⟩ := hcut
      cases kq with
      | zero => exact absurd HA.out (by simp [tacticianlaw02_RowsForms.j2])
      | succ kj19 =>
       have H := HA.out
       clear HA
       simp only [tacticianlaw02_RowsForms.j2] at H
       have HC24 := Aside0.mk H
       clear H
       go_upto_if 32 with (fail)
       go_cut [9] (fun v9 wc => ∃ (kq : Nat) (x9_23 : Int), v9 = .int .i64 x9_23 ∧ Aside0 (tacticianlaw02_RowsForms.j3 kq t399 t405 x9_23 = some r) ∧ Aside0 (kq ≤ kj19) ∧ Aside0 (Kd.R k88 88 wc w.heap.size (fun _ => True) (.slice Ao15 t399.length co15) t399) ∧ Aside0 (Kd.N (Kd.slice 61 k61) 40 wc w.heap.size (fun k_ => some k_ ≠ ((.slice Ao15 t399.length co15) : Value).ownBlock) (.slice Ao13 t405.length co13) t405) ∧ Aside0 (Below w.heap.size w wc))
       case first =>
        have H := HC24.out
        clear HC24
        by_cases c25 : x32_19 = true
        ·subst c25
         have H1 : (tacticianlaw02_RowsForms.j3 kj19 t399 t405 20) = some r := by rw [if_pos rfl] at H; exact H
         clear H
         have H := H1
         clear H1
         have H' := Aside0.mk H
         clear H
         go_wp2
         go_meet
         case rel => exact ⟨_, (20), (by first | rfl | (simp; done) | (simp [*]; done)), H', ⟨by have := HJ7.out; have := HJ16.out; have := HJ19.out; first | omega | exact Nat.le_refl _⟩, ⟨by (with_reducible repeat (first | apply Kd.R_alloc | apply Kd.R_drewN | apply Kd.R_drew)); exact HO_7.out⟩, ⟨by (with_reducible repeat (first | apply Kd.N_alloc | apply Kd.N_drewN | apply Kd.N_drew)); exact HO_8.out⟩, ⟨by repeat (first | (with_reducible first | exact HB.out | apply yA | apply yN | apply yD) | exact HB.out)⟩⟩
        ·replace c25 := Bool.eq_false_iff.mpr c25
         subst c25
         have H1 : (tacticianlaw02_RowsForms.j3 kj19 t399 t405 x9_16) = some r := by rw [if_neg (show ¬ (false = true) by decide)] at H; exact H
         clear H
         have H := H1
         clear H1
         have H' := Aside0.mk H
         clear H
         go_wp2
         go_meet
         case rel => exact ⟨_, (x9_16), (by first | rfl | (simp; done) | (simp [*]; done)), H', ⟨by have := HJ7.out; have := HJ16.out; have := HJ19.out; first | omega | exact Nat.le_refl _⟩, ⟨by (with_reducible repeat (first | apply Kd.R_alloc | apply Kd.R_drewN | apply Kd.R_drew)); exact HO_7.out⟩, ⟨by (with_reducible repeat (first | apply Kd.N_alloc | apply Kd.N_drewN | apply Kd.N_drew)); exact HO_8.out⟩, ⟨by repeat (first | (with_reducible first | exact HB.out | apply yA | apply yN | apply yD) | exact HB.out)⟩⟩
       case rest =>
        clear HC24
        try clear c1
        try clear c2
        try clear p2
        try clear c3
        try clear c6
        try clear c14
        try clear c16
        try clear c16b0
        try clear c16b1
        try clear c17
        try clear c18
        try clear c18b0
        try clear c18b1
        try clear c21
        try clear c21b0
        try clear c21b1
        try clear c25
        try clear p2
        obtain ⟨kq, x9_23, rfl, HA, HJ23, HO_7, HO_8, HB⟩ := hcut
        cases kq with
        | zero => exact absurd HA.out (by simp [tacticianlaw02_RowsForms.j3])
        | succ kj23 =>
         have H := HA.out
         clear HA
         simp only [tacticianlaw02_RowsForms.j3] at H
         replace H := Option.bind_eq_some_iff.mp H
         obtain ⟨t411, A260, H⟩ := H
         replace H : ((tacticianref02_Cols.f kj23 t399).bind fun t412 => (if t411 = t412 then ((rows_Check.f t399 t405).bind fun t413 => (if t413 = x9_23 then ((tacticianlaw02_awake.f).bind fun t414 => (some t414)) else (some false))) else (some false))) = some r := H
         have A26 := Aside0.mk A260
         clear A260
         replace H := Option.bind_eq_some_iff.mp H
         obtain ⟨t412, A270, H⟩ := H
         replace H : (if t411 = t412 then ((rows_Check.f t399 t405).bind fun t413 => (if t413 = x9_23 then ((tacticianlaw02_awake.f).bind fun t414 => (some t414)) else (some false))) else (some false)) = some r := H
         have A27 := Aside0.mk A270
         clear A270
         by_cases c28 : t411 = t412
         ·rw [if_pos c28] at H
          have c28b0 : (t411 == t412) = true := beq_iff_eq.mpr c28
          have c28b1 : (t411 != t412) = false := bne_eq_false_iff_eq.mpr c28
          clear c28
          replace H := Option.bind_eq_some_iff.mp H
          obtain ⟨t413, A290, H⟩ := H
          replace H : (if t413 = x9_23 then ((tacticianlaw02_awake.f).bind fun t414 => (some t414)) else (some false)) = some r := H
          have A29 := Aside0.mk A290
          clear A290
          by_cases c30 : t413 = x9_23
          ·rw [if_pos c30] at H
           have c30b0 : (t413 == x9_23) = true := beq_iff_eq.mpr c30
           have c30b1 : (t413 != x9_23) = false := bne_eq_false_iff_eq.mpr c30
           clear c30
           replace H := Option.bind_eq_some_iff.mp H
           obtain ⟨t414, A310, H⟩ := H
           replace H : (some t414) = some r := H
           have A31 := Aside0.mk A310
           clear A310
           obtain rfl := Option.some.inj H
           go_wp2_with (first | ((with_reducible refine gate_callee (f := 34) rfl ?_); refine goesL_ (some 34) rfl rfl Tryz.func34 (by kernel_rfl) rfl #[.slice Ao15 t399.length co15] rfl (by (try simp only [List.map_toArray, List.map_cons, List.map_nil]); first | done | rfl | (simp only [List.length_drop, List.length_take]; rfl)) ?_; (with_reducible refine (rows_CheckCols.calls _ _ t399 t411 _ ?side1 ?side2 A26.out).mono ?_); (case side1 => repeat (first | exact (Kd.R_reads' HO_7.out).2.2 | (with_reducible refine Kd.C_alloc ?_ _) | (with_reducible refine Kd.C_drewN ?_ _) | (with_reducible refine Kd.C_drew ?_))); (case side2 => exact (Kd.R_reads' HO_7.out).2.1); rintro e w32 ⟨rfl, hb⟩; refine ⟨_, rfl, ?_⟩; have n0_ := Aside0.mk (Kd.R_below (by (with_reducible repeat (first | apply Kd.R_alloc | apply Kd.R_drewN | apply Kd.R_drew)); exact HO_7.out) hb); have n1_ := Aside0.mk (Kd.N_below (by (with_reducible repeat (first | apply Kd.N_alloc | apply Kd.N_drewN | apply Kd.N_drew)); exact HO_8.out) hb); have n2_ := Aside0.mk (below_step (by repeat (first | (with_reducible first | exact HB.out | apply yA | apply yN | apply yD) | exact HB.out)) hb); clear HO_7; clear HO_8; clear HB; have HO_7 := n0_; have HO_8 := n1_; have HB := n2_; clear n0_ n1_ n2_; (try clear hb); (try clear hb2); (try clear hk); (try clear hi)) | ((with_reducible refine gate_callee (f := 32) rfl ?_); refine goesL_ (some 36) rfl rfl Tryz.func32 (by kernel_rfl) rfl #[.slice Ao15 t399.length co15] rfl (by (try simp only [List.map_toArray, List.map_cons, List.map_nil]); first | done | rfl | (simp only [List.length_drop, List.length_take]; rfl)) ?_; (with_reducible refine (tacticianref02_Cols.calls kj23 _ _ t399 t412 _ ?side1 ?side2 A27.out).mono ?_); (case side1 => repeat (first | exact (Kd.R_reads' HO_7.out).2.2 | (with_reducible refine Kd.C_alloc ?_ _) | (with_reducible refine Kd.C_drewN ?_ _) | (with_reducible refine Kd.C_drew ?_))); (case side2 => exact (Kd.R_reads' HO_7.out).2.1); rintro e w' ⟨rfl, ⟨nd, rfl⟩⟩; refine ⟨_, rfl, ?_⟩) | (go_at_call 35; (with_reducible refine (rows_Check.calls _ _ t399 _ _ t405 t413 _ ?side1 ?side2 ?side3 ?side4 A29.out).mono ?_); (case side1 => repeat (first | exact (Kd.R_reads' HO_7.out).2.2 | (with_reducible refine Kd.C_alloc ?_ _) | (with_reducible refine Kd.C_drewN ?_ _) | (with_reducible refine Kd.C_drew ?_))); (case side2 => exact (Kd.R_reads' HO_7.out).2.1); (case side3 => repeat (first | exact (Kd.N_reads' HO_8.out).2.2 | (with_reducible refine Kd.C_alloc ?_ _) | (with_reducible refine Kd.C_drewN ?_ _) | (with_reducible refine Kd.C_drew ?_))); (case side4 => exact (Kd.N_reads' HO_8.out).2.1); rintro e w33 ⟨rfl, hb⟩; have n0_ := Aside0.mk (Kd.R_below (by (with_reducible repeat (first | apply Kd.R_alloc | apply Kd.R_drewN | apply Kd.R_drew)); exact HO_7.out) hb); have n1_ := Aside0.mk (Kd.N_below (by (with_reducible repeat (first | apply Kd.N_alloc | apply Kd.N_drewN | apply Kd.N_drew)); exact HO_8.out) hb); have n2_ := Aside0.mk (below_step (by repeat (first | (with_reducible first | exact HB.out | apply yA | apply yN | apply yD) | exact HB.out)) hb); clear HO_7; clear HO_8; clear HB; have HO_7 := n0_; have HO_8 := n1_; have HB := n2_; clear n0_ n1_ n2_; (try clear hb); (try clear hb2); (try clear hk); (try clear hi)) | (go_at_call 18; (with_reducible refine (tacticianlaw02_awake.calls  t414 _ ?side1 A31.out).mono ?_); (case side1 => exact Laid.below HLD.out (by repeat (first | (with_reducible first | exact HB.out | apply yA | apply yN | apply yD) | exact HB.out))); rintro e w34 ⟨rfl, hb⟩; have n0_ := Aside0.mk (Kd.R_below (by (with_reducible repeat (first | apply Kd.R_alloc | apply Kd.R_drewN | apply Kd.R_drew)); exact HO_7.out) hb); have n1_ := Aside0.mk (Kd.N_below (by (with_reducible repeat (first | apply Kd.N_alloc | apply Kd.N_drewN | apply Kd.N_drew)); exact HO_8.out) hb); have n2_ := Aside0.mk (below_step (by repeat (first | (with_reducible first | exact HB.out | apply yA | apply yN | apply yD) | exact HB.out)) hb); clear HO_7; clear HO_8; clear HB; have HO_7 := n0_; have HO_8 := n1_; have HB := n2_; clear n0_ n1_ n2_; (try clear hb); (try clear hb2); (try clear hk); (try clear hi)))
           go_ret
           exact ⟨by first | rfl | (simp [errW_none, errW_some] <;> rfl) | (simp [*, errW_none, errW_some] <;> rfl), by repeat (first | (with_reducible first | exact HB.out | apply yA | apply yN | apply yD) | exact HB.out)⟩
          ·rw [if_neg c30] at H
           have c30b0 : (t413 == x9_23) = false := beq_eq_false_iff_ne.mpr c30
           have c30b1 : (t413 != x9_23) = true := bne_iff_ne.mpr c30
           exact absurd ((Option.some.inj H).trans hr_.out) (by decide)
         ·rw [if_neg c28] at H
          have c28b0 : (t411 == t412) = false := beq_eq_false_iff_ne.mpr c28
          have c28b1 : (t411 != t412) = true := bne_iff_ne.mpr c28
          exact absurd ((Option.some.inj H).trans hr_.out) (by decide)
end Go.Proofs.YtmhobbdedmjmnaaGreatDoor.Q
end
section
/- What the law RowsForms computes answers as it says, in plain words: no program in sight. -/
namespace Go.Proofs.YtmhobbdedmjmnaaGreatDoor
open Go.RowKit Go.Proofs.YtmhobbdedmjmnaaGreatDoor.Q Go.Proofs.YtmhobbdedmjmnaaGreatDoorW.PrintWords Go.Proofs.YtmhobbdedmjmnaaGreatDoorW.PrintLast Go.Proofs.YtmhobbdedmjmnaaGreatDoorW.PrintMore
/-- what is wrong with columns -/
def colsE (c : List CC) : Int := if 16 < c.length then 2 else if colsB (c.map fun c => (c.f0, c.f1)) = true then 0 else 20
theorem forms_j3 (c : List CC) (hc : c.length ≤ 20) (l : List (List V)) (hl : RowsOk 100000 l) (e : Int) (k : Nat) (hk : 200000 ≤ k)
    (he : e = if 16 < c.length then 2 else if smallE [l] ≠ 0 then smallE [l] else if colsB (c.map fun c => (c.f0, c.f1)) = true ∧ (l.any fun r => !fitR c r) = false then 0 else 20) :
    tacticianlaw02_RowsForms.j3 (k + 1) c l e = some true := by
  have hl1 := hl.1
  have h1 : rows_CheckCols.f c = some (colsE c) := by
    unfold rows_CheckCols.f rows_AreCols.f colsE
    by_cases h : 16 < c.length
    · rw [if_pos (by omega), if_pos h]
    · rw [if_neg (by omega), if_neg h, Option.bind_some]
      split <;> rfl
  have h2 : tacticianref02_Cols.f k c = some (colsE c) := refCols c (by omega) k (by omega)
  have h3 : rows_Check.f c l = some e := by
    unfold rows_Check.f
    rw [if_pos (by omega), he]
  rw [tacticianlaw02_RowsForms.j3, h1, h2, h3]
  simp only [Option.bind_some]
  simp [tacticianlaw02_awake.f]
theorem pure_RowsForms : ∀ (l0 : (List CC)) (l1 : (List (List V))) (a2 : Bool), (l0.length * 16 ≤ 140737488351232 ∧ l0.length ≤ maxLen ∧ ∀ x ∈ l0, (Lit.int .i64 x.f0).wf = true) → argRows l1 → ∃ k, Q.tacticianlaw02_RowsForms.f k (l0) (l1) (a2) = some true := by
  intro l0 l1 b _ h1
  refine ⟨500000, ?_⟩
  unfold tacticianlaw02_RowsForms.f tacticianlaw02_CutCols.f
  have hl : RowsOk 100 (cutRows 30 l1) := (argRows_ok h1).grow (by omega)
  have hm := mn_leW (l0.length : Int) 18 (by omega) (by omega)
  rw [Option.bind_some, if_pos hm.1, if_pos hm.2.1, Option.bind_some, List.length_nil, List.nil_append]
  obtain ⟨c, hc⟩ : ∃ c, c = l0.take (mn (l0.length : Int) 18).toNat := ⟨_, rfl⟩
  have hn : c.length ≤ 18 := by rw [hc, List.length_take]; omega
  rw [← hc]
  clear hc hm
  rw [if_pos (by omega), Option.bind_some, show (30 : Int) = ((30 : Nat) : Int) from rfl, cutRows_at l1 30 500000 (by omega) (by omega), Option.bind_some]
  obtain ⟨L, e, hL⟩ := longR_at (cutRows 30 l1) hl b 500000 (by omega)
  rw [e, Option.bind_some, refList L [] hL (rowsOk_nil _) 500000 (by omega), Option.bind_some, smallE_nil]
  have j2 : ∀ x e, tacticianlaw02_RowsForms.j2 499998 c L e x = tacticianlaw02_RowsForms.j3 499997 c L (if x = true then 20 else e) := by
    intro x e
    rw [tacticianlaw02_RowsForms.j2]
    cases x
    · rw [if_neg (by decide), if_neg (by decide)]
    · rw [if_pos rfl, if_pos rfl]
  have j1 : ∀ e, tacticianlaw02_RowsForms.j1 499999 c L e = tacticianlaw02_RowsForms.j3 499997 c L (if e = 0 ∧ (L.any fun r => !fitR c r) = true then 20 else e) := by
    intro e
    rw [tacticianlaw02_RowsForms.j1]
    by_cases h : e = 0
    · rw [if_pos h, refAllFit c L hL 499998 (by omega), Option.bind_some, j2, Bool.not_not]
      cases (L.any fun r => !fitR c r) with
      | true => rw [if_pos rfl, if_pos ⟨h, rfl⟩]
      | false => rw [if_neg (by decide), if_neg (fun q => by cases q.2)]
    · rw [if_neg h, j2, if_neg (by decide), if_neg (fun q => h q.1)]
  have j0 : ∀ e, tacticianlaw02_RowsForms.j0 500000 c L e = tacticianlaw02_RowsForms.j1 499999 c L (if e = 0 then colsE c else e) := by
    intro e
    rw [tacticianlaw02_RowsForms.j0]
    by_cases h : e = 0
    · rw [if_pos h, if_pos h, refCols c (by omega) 499999 (by omega)]
      rfl
    · rw [if_neg h, if_neg h]
  by_cases h16 : 16 < c.length
  · rw [if_pos (by omega), j0, if_neg (by decide), j1, if_neg (fun q => by cases q.1)]
    exact forms_j3 c (by omega) L hL 2 499996 (by omega) (by rw [if_pos h16])
  · rw [if_neg (by omega), j0, j1]
    refine forms_j3 c (by omega) L hL _ 499996 (by omega) ?_
    rw [if_neg h16]
    unfold colsE
    rw [if_neg h16]
    by_cases hs : smallE [L] = 0
    · rw [if_pos hs, if_neg (show ¬ smallE [L] ≠ 0 from fun q => q hs)]
      cases colsB (c.map fun c => (c.f0, c.f1)) <;> cases (L.any fun r => !fitR c r) <;> rfl
    · rw [if_neg hs, if_pos hs, if_neg (fun q => hs q.1)]
end Go.Proofs.YtmhobbdedmjmnaaGreatDoor
end
section
/- From data that are read (the form's 'trod') to what the printed contracts ask: numbers, bools, strings, slices, structs; with the reach's bounds. -/
namespace Go.Proofs.YtmhobbdedmjmnaaGreatDoor
open Go.RowKit Go.Proofs.YtmhobbdedmjmnaaGreatDoor.Q Go.Proofs.YtmhobbdedmjmnaaGreatDoorW.PrintWords Go.Proofs.YtmhobbdedmjmnaaGreatDoorW.PrintLast Go.Proofs.YtmhobbdedmjmnaaGreatDoorW.PrintMore
variable {α : Type}
/-- Data of type t that can be read are such a value; within the reach it is 'ok'. -/
def Opens (P : Program) (t : TypeId) (d : Kd α) (ok : α → Prop) : Prop :=
  ∀ (H : Type) (enc : TypeId × Value → H) (W : World) (base : Nat) (spare : Nat → Bool) (held : Bool) (fuel : Nat) (cs : List Value) (x : DataW H × List MemPlace),
    DataW.trod enc P W base spare held fuel t cs = some x → ∃ a, d.K W a cs ∧ (((DataW.weights P t x.1).all (· ≤ reachBytes)) = true → ok a)
theorem Opens.int {P : Program} {t : TypeId} {k : IntKind} (ht : P.underlying t = some (.int k)) : Opens P t (Kd.int k) (fun a => (Lit.int k a).wf = true) := by
  intro H enc W base spare held fuel cs x h
  obtain ⟨a, e0, rfl, wa⟩ := DataW.trod_int ht h
  exact ⟨a, e0, fun _ => wa⟩
theorem Opens.bool {P : Program} {t : TypeId} (ht : P.underlying t = some .bool) : Opens P t Kd.bool (fun _ => True) := by
  intro H enc W base spare held fuel cs x h
  obtain ⟨a, e0, rfl⟩ := DataW.trod_bool ht h
  exact ⟨a, e0, fun _ => trivial⟩
theorem Opens.string {P : Program} {t : TypeId} (ht : P.underlying t = some .string) : Opens P t Kd.string (fun a => a.size ≤ 140737488351232) := by
  intro H enc W base spare held fuel cs x h
  obtain ⟨a, e0, rfl, ws⟩ := DataW.trod_string ht h
  refine ⟨a, e0, fun hw => ?_⟩
  simp only [DataW.weights, List.all_cons, List.all_nil, Bool.and_true, decide_eq_true_eq] at hw
  have e : a.data.toList.length = a.size := Array.length_toList
  unfold reachBytes at hw
  omega
theorem mem_weightsAll {H : Type} (P : Program) (e : TypeId) : ∀ (l : List (DataW H)) (d : DataW H), d ∈ l → ∀ n, n ∈ d.weights P e → n ∈ DataW.weightsAll P e l := by
  intro l
  induction l with
  | nil => intro d hd; cases hd
  | cons z r ih =>
    intro d hd n hn
    rw [DataW.weightsAll, List.mem_append]
    rcases List.mem_cons.1 hd with rfl | hd
    · exact .inl hn
    · exact .inr (ih d hd n hn)
/-- choice along a list's places -/
theorem choose_list {β : Type} (n : Nat) (p : Nat → β → Prop) (h : ∀ i, i < n → ∃ b, p i b) : ∃ l : List β, l.length = n ∧ ∀ i b, l[i]? = some b → p i b := by
  induction n with
  | zero => exact ⟨[], rfl, fun i b hb => by simp at hb⟩
  | succ n ih =>
    obtain ⟨l, hl, hp⟩ := ih (fun i hi => h i (by omega))
    obtain ⟨b, hb⟩ := h n (by omega)
    refine ⟨l ++ [b], by simp [hl], fun i b' hb' => ?_⟩
    by_cases hi : i < l.length
    · rw [List.getElem?_append_left hi] at hb'; exact hp i b' hb'
    · rw [List.getElem?_append_right (by omega)] at hb'
      have hi2 : i = n := by
        rcases Nat.lt_or_ge (i - l.length) 1 with h1 | h1
        · omega
        · rw [List.getElem?_eq_none (by simpa using h1)] at hb'; cases hb'
      subst hi2
      rw [show i - l.length = 0 by omega] at hb'
      simp at hb'
      rw [← hb']; exact hb
theorem Opens.slice {P : Program} {t e : TypeId} {d : Kd α} {ok : α → Prop} {n : Nat} (ht : P.underlying t = some (.slice e)) (hc : P.cellsOf e = d.sz) (hb : P.bytesOf e = n) (hd : Opens P e d ok) :
    Opens P t (Kd.slice e d) (fun l => l.length * n ≤ 140737488351232 ∧ l.length ≤ maxLen ∧ ∀ a ∈ l, ok a) := by
  intro H enc W base spare held fuel cs x h
  rcases Go.Deep.open_slice ht h with ⟨rfl, rfl⟩ | ⟨a, len, cap, m, n', D, Pl, rfl, _, hl, hm, hmm, rfl, hx⟩
  · exact ⟨[], ⟨none, 0, rfl, Nat.le_refl _, rfl, by simp, fun h => absurd h (Nat.lt_irrefl _)⟩, fun _ => ⟨by simp, by simp, fun a ha => by cases ha⟩⟩
  · have hlm : len ≤ m := by rw [hmm]; split <;> omega
    obtain ⟨l, hll, hp⟩ := choose_list len (fun i z => ∃ cs', W.cells? base (a.add (i * P.cellsOf e)) (P.cellsOf e) = some cs' ∧ d.K W z cs' ∧ (((DataW.weights P e (D i)).all (· ≤ reachBytes)) = true → ok z)) (fun i hi => by
      obtain ⟨cs', h1, h2⟩ := hx i (by omega)
      obtain ⟨z, hz, hok⟩ := hd H enc W base spare held n' cs' _ h2
      exact ⟨z, cs', h1, hz, hok⟩)
    subst hll
    unfold maxLen at hm
    refine ⟨l, ⟨some a, cap, rfl, hl, rfl, by omega, fun _ => ⟨a, rfl, fun j p hj => ?_⟩⟩, fun hw => ?_⟩
    · obtain ⟨cs', h1, h2, _⟩ := hp j p hj
      rw [hc] at h1
      obtain ⟨_, hlen, hcell⟩ := World.cells?_some h1
      refine ⟨cs', hlen, h2, fun i u hu => ?_⟩
      have hi : i < d.sz := by rw [← hlen]; exact (List.getElem?_eq_some_iff.1 hu).1
      have := (hcell i hi).trans hu
      rw [Addr.add_add] at this
      exact this
    · rw [DataW.weights, ht] at hw
      simp only [List.all_cons, List.all_append, Bool.and_eq_true, decide_eq_true_eq] at hw
      obtain ⟨h1, h2, _⟩ := hw
      rw [hb] at h1
      refine ⟨?_, by unfold maxLen; omega, fun z hz => ?_⟩
      · have h3 : l.length * n ≤ (((List.range l.length).map D).length + ((List.range (m - l.length)).map fun j => D (l.length + j)).length) * n := Nat.mul_le_mul_right _ (by simp)
        unfold reachBytes at h1
        omega
      · obtain ⟨i, hi, rfl⟩ := List.getElem_of_mem hz
        obtain ⟨_, _, _, hok⟩ := hp i _ (List.getElem?_eq_getElem hi)
        refine hok ?_
        rw [List.all_eq_true] at h2 ⊢
        intro q hq
        exact h2 q (mem_weightsAll P e _ (D i) (List.mem_map.2 ⟨i, List.mem_range.2 hi, rfl⟩) q hq)
set_option maxRecDepth 100000 in
/-- a value: three cells -/
theorem Opens.value : Opens Tryz.prog 61 k61 (fun v => (Lit.int .i64 v.f0).wf = true ∧ (Lit.int .i64 v.f1).wf = true ∧ v.f2.size ≤ 140737488351232) := by
  intro H enc W base spare held fuel cs x h
  obtain ⟨y0, y1, y2, n, rfl, hl, h0, h1, h2⟩ := Go.Deep.trod_struct3 Tryz.underlying61 h
  have hc : Tryz.prog.cellsOf 61 = 3 := by kernel_rfl
  have c0 : Tryz.prog.cellsOf 59 = 1 := by kernel_rfl
  have c1 : Tryz.prog.cellsOf 2 = 1 := by kernel_rfl
  have c2 : Tryz.prog.cellsOf 9 = 1 := by kernel_rfl
  rw [hc] at hl
  simp only [c0, c1, c2] at h0 h1 h2
  obtain ⟨a, e0, o0⟩ := Opens.int Tryz.underlying59 H enc W base spare held _ _ _ h0
  obtain ⟨b, e1, o1⟩ := Opens.int Tryz.underlying2 H enc W base spare held _ _ _ h1
  obtain ⟨c, e2, o2⟩ := Opens.string Tryz.underlying9 H enc W base spare held _ _ _ h2
  match cs, hl with
  | [z0, z1, z2], _ =>
    have q0 : [z0] = [Value.int .i64 a] := e0
    have q1 : [z1] = [Value.int .i64 b] := e1
    have q2 : [z2] = [Value.string c] := e2
    simp only [List.cons.injEq, and_true] at q0 q1 q2
    subst q0 q1 q2
    refine ⟨⟨a, b, c⟩, k61_mk W ⟨a, b, c⟩, fun hw => ?_⟩
    rw [DataW.weights, Tryz.underlying61] at hw
    simp only [List.map_cons, List.map_nil, DataW.weightsEach, List.all_append, List.append_nil, Bool.and_eq_true] at hw
    exact ⟨o0 hw.1, o1 hw.2.1, o2 hw.2.2⟩
end Go.Proofs.YtmhobbdedmjmnaaGreatDoor
end
section
/- From data that are read to what the printed contracts ask: keys and columns (two cells each). -/
namespace Go.Proofs.YtmhobbdedmjmnaaGreatDoor
open Go.RowKit Go.Proofs.YtmhobbdedmjmnaaGreatDoor.Q Go.Proofs.YtmhobbdedmjmnaaGreatDoorW.PrintWords Go.Proofs.YtmhobbdedmjmnaaGreatDoorW.PrintLast Go.Proofs.YtmhobbdedmjmnaaGreatDoorW.PrintMore
set_option maxRecDepth 100000 in
/-- a key: two cells -/
theorem Opens.key : Opens Tryz.prog 36 k36 (fun v => (Lit.int .i64 v.f0).wf = true) := by
  intro H enc W base spare held fuel cs x h
  obtain ⟨y0, y1, n, rfl, hl, h0, h1⟩ := Go.ChangeShapes.trod_struct2 Tryz.underlying36 h
  have hc : Tryz.prog.cellsOf 36 = 2 := by kernel_rfl
  have c0 : Tryz.prog.cellsOf 3 = 1 := by kernel_rfl
  have c1 : Tryz.prog.cellsOf 4 = 1 := by kernel_rfl
  rw [hc] at hl
  simp only [c0, c1] at h0 h1
  obtain ⟨a, e0, o0⟩ := Opens.int Tryz.underlying3 H enc W base spare held _ _ _ h0
  obtain ⟨b, e1, o1⟩ := Opens.bool Tryz.underlying4 H enc W base spare held _ _ _ h1
  match cs, hl with
  | [z0, z1], _ =>
    have q0 : [z0] = [Value.int .i64 a] := e0
    have q1 : [z1] = [Value.bool b] := e1
    simp only [List.cons.injEq, and_true] at q0 q1
    subst q0 q1
    refine ⟨⟨a, b⟩, k36_mk W ⟨a, b⟩, fun hw => ?_⟩
    rw [DataW.weights, Tryz.underlying36] at hw
    simp only [List.map_cons, List.map_nil, DataW.weightsEach, List.all_append, List.append_nil, Bool.and_eq_true] at hw
    exact o0 hw.1
set_option maxRecDepth 100000 in
/-- a column: two cells -/
theorem Opens.col : Opens Tryz.prog 88 k88 (fun v => (Lit.int .i64 v.f0).wf = true) := by
  intro H enc W base spare held fuel cs x h
  obtain ⟨y0, y1, n, rfl, hl, h0, h1⟩ := Go.ChangeShapes.trod_struct2 Tryz.underlying88 h
  have hc : Tryz.prog.cellsOf 88 = 2 := by kernel_rfl
  have c0 : Tryz.prog.cellsOf 59 = 1 := by kernel_rfl
  have c1 : Tryz.prog.cellsOf 4 = 1 := by kernel_rfl
  rw [hc] at hl
  simp only [c0, c1] at h0 h1
  obtain ⟨a, e0, o0⟩ := Opens.int Tryz.underlying59 H enc W base spare held _ _ _ h0
  obtain ⟨b, e1, o1⟩ := Opens.bool Tryz.underlying4 H enc W base spare held _ _ _ h1
  match cs, hl with
  | [z0, z1], _ =>
    have q0 : [z0] = [Value.int .i64 a] := e0
    have q1 : [z1] = [Value.bool b] := e1
    simp only [List.cons.injEq, and_true] at q0 q1
    subst q0 q1
    refine ⟨⟨a, b⟩, k88_mk W ⟨a, b⟩, fun hw => ?_⟩
    rw [DataW.weights, Tryz.underlying88] at hw
    simp only [List.map_cons, List.map_nil, DataW.weightsEach, List.all_append, List.append_nil, Bool.and_eq_true] at hw
    exact o0 hw.1
end Go.Proofs.YtmhobbdedmjmnaaGreatDoor
end
section
/- Proved: what the rows of this seat share (the witness's world, the listed variables, the wrap), under the conditions of the given statements alone (written by a program of ours for this seat). -/
namespace Go.Proofs.YtmhobbdedmjmnaaGreatDoor
open Go.RowKit
variable {H : Type} {enc : TypeId × Value → H}
/-- The plain wrap, with the listed variables and the world's shape kept. -/
theorem returnsInHanded_both {a : Assume} {C : Checked} {os : Os} {f : FuncId} {fn : Func} {s : ChangeSpec} {conds : List PathCond} {apart fresh handsOn again : Bool} {X : World → Array Value → Prop}
    (hX : ∀ (w w' : World) (args : Array Value), w.heap = w'.heap → X w args → X w' args)
    (own : ownKnob C.prog.godebug = none) (started : os.Started) (noInit : C.prog.inits.idxOf? f = none) (hfn : C.prog.funcs[f]? = some fn)
    (witness : ∃ (w : World) (tape : Tape) (i : Input), w.os = os ∧ (w.forCall tape i).Shaped C.prog ∧ i.vars = [] ∧ Input.okWide C.prog (w.forCall tape i) .any w.heap.size f i ∧
      ((s.pre enc C.prog fn conds apart (w.forCall tape i).memory i.args ∧ X (w.forCall tape i).memory i.args) ∧ sizedMet enc C.prog fn (OpenSpec.ofChange s) apart (w.forCall tape i).memory i.args) ∧ a.holds C.prog (lone (Frame.enter C.prog f i.args .normal) [] (w.forCall tape i)))
    (contract : ∀ (W : World) (base : Nat) (args : Array Value) (ds gs : List (DataW H)) (before : List MemPlace),
      (∀ (j : Nat) t v, fn.params[j]? = some t → args[j]? = some v → Value.okWide C.prog W .any base t v) →
      DataW.Whole enc C.prog fn.params.toList s.vars apart W args.toList ds gs before →
      conds.all (PathCond.test C.prog ⟨fn.params.toList, ds, s.plain.varTypes C.prog, gs⟩) = true →
      (DataW.weightsEach C.prog (fn.params.toList ++ s.plain.varTypes C.prog) (ds ++ gs)).all (· ≤ reachBytes) = true → X W args → W.ShapedOpen C.prog →
      a.holds C.prog (lone (Frame.enter C.prog f args .normal) [] W) →
      Calls C.prog f args W fun e W' => ∃ v, e = .returned v ∧ s.post enc C.prog fn apart fresh handsOn again W args v W') :
    ReturnsInHanded a C os f .any (fun w args => (s.pre enc C.prog fn conds apart w args ∧ X w args) ∧ sizedMet enc C.prog fn (OpenSpec.ofChange s) apart w args) (s.post enc C.prog fn apart fresh handsOn again) := by
  refine returnsInHanded_of_calls own started noInit witness ?_
  intro w tape i _ hsh _ hok hpre hholds
  obtain ⟨_, _, _, fn', hfn', _, _, _, _, hval⟩ := hok
  have e : fn' = fn := Option.some.inj (hfn'.symm.trans hfn)
  subst e
  obtain ⟨⟨⟨ds, gs, before, hw, hc⟩, hx⟩, hz⟩ := hpre
  have hw' := DataW.Whole.of_heap (w' := w.forCall tape i) (by rfl) hw
  refine (contract (w.forCall tape i) w.heap.size i.args ds gs before hval hw' hc (hz.weights hw) (hX _ _ _ (by rfl) hx) hsh hholds).mono fun e W' ⟨v, he, hp⟩ => ?_
  subst he
  exact ChangeSpec.post_blind hp
theorem own : ownKnob Tryz.prog.godebug = none := by kernel_rfl
theorem laidOut : laidOutB Tryz.prog = true := by kernel_rfl
/-- the world that the program's own start leaves, the pinned table laid -/
noncomputable def laidWorld (os : Os) : World :=
  let w0 := World.doorLaid Tryz.prog 600 os
  { w0 with heap := w0.heap.modify 2 fun
      | .cells _ t frozen => .cells (Lib.firstTab.map fun z => Value.int .u8 z).toArray t frozen
      | o => o }
theorem laid_plain {W : World} (h : laidMetH Tryz.prog Rows.rowsTogetherRow.laid W) : laidMet Tryz.prog Rows.rowsTogetherRow.laid W := by
  have e : (Rows.rowsTogetherRow.laid.filter fun x => x.2.handleName?.isSome) = [] := by kernel_rfl
  unfold laidMetH at h
  rw [e] at h
  exact h
theorem laid_met (os : Os) (args : Array Value) : laidMetH Tryz.prog Rows.rowsTogetherRow.laid ((laidWorld os).forCall (fun _ _ => 0) ⟨#[], args, []⟩).memory := by
  have e : (Rows.rowsTogetherRow.laid.filter fun x => x.2.handleName?.isSome) = [] := by kernel_rfl
  unfold laidMetH
  rw [e]
  exact laidMet_of_run' 8 (by kernel_rfl) (by kernel_rfl)
theorem laid_of {W : World} (h0 : laidMetH Tryz.prog Rows.rowsTogetherRow.laid W) (hsh : W.ShapedOpen Tryz.prog) : Laid W := by
  have h := laid_plain h0
  have hp : Lib.TabIs Tryz.prog W "internal/strconv.uint64pow10" .u64 Lib.pow10Tab := by
    have z := h.tail.tail
    have e : Rows.laid_internal_strconv_uint64pow10 (H := Unit) = Lib.tabData .u64 Lib.pow10Tab := by kernel_rfl
    rw [e] at z
    exact Lib.tabIs_of_head (g := 0) (t := 198) (e := 153) (n := 20) (by kernel_rfl) (by kernel_rfl) (by kernel_rfl) (by kernel_rfl) (by kernel_rfl) (by kernel_rfl) z
  obtain ⟨m, hm⟩ := cell_of_shapedOpen_int (g := 1) (t := 3) (k := .i64) (zero := #[.int .i64 0]) hsh (of_decide_eq_true (by kernel_rfl)) (by kernel_rfl) rfl (by kernel_rfl) (by kernel_rfl) (by kernel_rfl)
  exact ⟨hp, ⟨m, hm⟩⟩
end Go.Proofs.YtmhobbdedmjmnaaGreatDoor
end
section
/- Proved: the card of the statement RowsForms, under the conditions of the given statements alone (written by a program of ours for this seat). -/
namespace Go.Proofs.YtmhobbdedmjmnaaGreatDoor.rowsForms
open Go.ChangeShapes Go.WideShapes Go.ChangeAt Go.RowKit
open Go.ChangeMaps (open_string shut_string)
open Go.Proofs.YtmhobbdedmjmnaaGreatDoor.Q Go.Proofs.YtmhobbdedmjmnaaGreatDoorW.PrintWords
set_option linter.unusedVariables false
set_option maxRecDepth 100000 in
set_option maxHeartbeats 1000000 in
theorem lifted (os : Os) (started : os.Started) (H : Type) (enc : TypeId × Value → H) :
    ReturnsInHanded {} Tryz.checked os 6 .any (fun w args => (Rows.rowsFormsSpec.pre enc Tryz.prog Tryz.f6 [] false w args ∧ laidMetH Tryz.prog Rows.rowsFormsRow.laid w) ∧ sizedMet enc Tryz.prog Tryz.f6 (OpenSpec.ofChange Rows.rowsFormsSpec) false w args) (Rows.rowsFormsSpec.post enc Tryz.prog Tryz.f6 false true false false) := by
  refine returnsInHanded_both (C := Tryz.checked) (X := fun w _ => laidMetH Tryz.prog Rows.rowsFormsRow.laid w) (fun _ _ _ hh h => h.of_heap hh) own started (by kernel_rfl) Tryz.func6
    (ChangeSpec.witness_shaped (enc := enc) (C := Tryz.checked) (os := os) (X := fun w _ => laidMetH Tryz.prog Rows.rowsFormsRow.laid w) false (laidWorld os) #[.slice none 0 0, .slice none 0 0, .bool false] 8 rfl (World.shaped_of_RefB (by kernel_rfl) (by kernel_rfl)) (by kernel_rfl) (by kernel_rfl) (by kernel_rfl) (laid_met os _)) ?_
  intro W base args ds gs before hval0 hW _ hsz0 hL hsh _
  have hsz : (DataW.weightsEach Tryz.prog (Tryz.f6.params.toList ++ Rows.rowsFormsSpec.plain.varTypes Tryz.prog) (ds ++ gs)).all (· ≤ reachBytes) = true := hsz0
  have hW' := hW
  obtain ⟨p, q, hA0, hV, rfl, hfz, hnd⟩ := hW
  have hA : DataW.TrodAll enc Tryz.prog W 0 (fun _ => true) true Tryz.f6.params.toList args.toList ds p := hA0
  rw [Tryz.params6] at hA hsz
  obtain ⟨v0, vs0, d0, ds0, p0, q0, hargs, rfl, rfl, h0, r0⟩ := trodAll_cons hA
  obtain ⟨v1, vs1, d1, ds1, p1, q1, rfl, rfl, rfl, h1, r1⟩ := trodAll_cons r0
  obtain ⟨v2, vs2, d2, ds2, p2, q2, rfl, rfl, rfl, h2, r2⟩ := trodAll_cons r1
  obtain ⟨rfl, rfl, rfl⟩ := trodAll_nil r2
  obtain rfl : args = #[v0, v1, v2] := by cases args; simp_all
  obtain ⟨rfl, rfl⟩ := trodVars_none hV
  have hval : ∀ (j : Nat) t v, Tryz.f6.params[j]? = some t → (#[v0, v1, v2] : Array Value)[j]? = some v → Value.okWide Tryz.prog W .any base t v := hval0
  rw [Tryz.params6] at hval
  have k0 := h0
  have lt0 : ∀ x ∈ p0, x.block < W.heap.size := by obtain ⟨m, hm⟩ := k0; exact DataW.trod_lt m _ _ _ hm
  obtain ⟨aa0, len0, cap0, rfl⟩ := okWide_slice Tryz.underlying49 (hval 0 49 v0 rfl rfl)
  obtain ⟨fuel0, hf0⟩ := h0
  obtain ⟨l0, ⟨A0, c0, ev0, hc0, hr0⟩, o0⟩ := (Opens.slice Tryz.underlying49 (by kernel_rfl) (n := 16) (by kernel_rfl) Opens.col) H enc W 0 _ _ fuel0 _ _ hf0
  obtain ⟨rfl, rfl, rfl⟩ : aa0 = A0 ∧ len0 = l0.length ∧ cap0 = c0 := by simpa [Value.cells] using ev0
  have y0 := o0 (List.all_eq_true.2 fun z hz => (List.all_eq_true.1 hsz) z (DataW.weights_mem_each (j := 0) (t := 49) rfl rfl z hz))
  have k1 := h1
  have lt1 : ∀ x ∈ p1, x.block < W.heap.size := by obtain ⟨m, hm⟩ := k1; exact DataW.trod_lt m _ _ _ hm
  obtain ⟨aa1, len1, cap1, rfl⟩ := okWide_slice Tryz.underlying22 (hval 1 22 v1 rfl rfl)
  obtain ⟨fuel1, hf1⟩ := h1
  obtain ⟨l1, ⟨A1, c1, ev1, hc1, hr1⟩, o1⟩ := (Opens.slice Tryz.underlying22 (by kernel_rfl) (n := 24) (by kernel_rfl) (Opens.slice Tryz.underlying40 (by kernel_rfl) (n := 32) (by kernel_rfl) Opens.value)) H enc W 0 _ _ fuel1 _ _ hf1
  obtain ⟨rfl, rfl, rfl⟩ : aa1 = A1 ∧ len1 = l1.length ∧ cap1 = c1 := by simpa [Value.cells] using ev1
  have y1 := o1 (List.all_eq_true.2 fun z hz => (List.all_eq_true.1 hsz) z (DataW.weights_mem_each (j := 1) (t := 22) rfl rfl z hz))
  have k2 := h2
  have lt2 : ∀ x ∈ p2, x.block < W.heap.size := by obtain ⟨m, hm⟩ := k2; exact DataW.trod_lt m _ _ _ hm
  obtain ⟨a2, rfl, rfl, rfl⟩ := open_bool Tryz.underlying4 (hval 2 4 v2 rfl rfl) h2
  obtain ⟨k, hk⟩ := pure_RowsForms l0 l1 a2 y0 y1
  refine (Q.tacticianlaw02_RowsForms.calls k _ _ l0 _ _ l1 a2 true W hr0 hc0 hr1 hc1 (laid_of hL hsh) ⟨rfl⟩ hk).mono fun e W' ⟨he, bel⟩ => ?_
  subst he
  exact ⟨_, rfl, _, _, _, [], _, [], hW', trodAll_mk1 (shut_bool Tryz.underlying4 _), (trodAll_cons_mk (Below.trod laidOut (by kernel_rfl) (of_decide_eq_true (by kernel_rfl)) k0 bel lt0) (trodAll_cons_mk (Below.trod laidOut (by kernel_rfl) (of_decide_eq_true (by kernel_rfl)) k1 bel lt1) (trodAll_cons_mk (Below.trod laidOut (by kernel_rfl) (of_decide_eq_true (by kernel_rfl)) k2 bel lt2) trodAll_mk0))), rfl, bel.frame _, fun h => by cases h⟩
theorem over : Rows.rowsFormsRow.holds Tryz.pinned (OpenSpec.ofChange Rows.rowsFormsSpec) :=
  OpenClaim.holds_of_wide 6 Tryz.f6 rfl rfl rfl rfl rfl rfl rfl ⟨rfl, rfl, rfl, rfl, rfl⟩ rfl rfl rfl rfl rfl (by kernel_rfl) Tryz.func6 (by kernel_rfl)
    (of_decide_eq_true (by kernel_rfl)) (by unfold Func.isWrapper; first | (rw [if_pos (by decide +kernel)]; kernel_rfl) | (rw [if_neg (by decide +kernel)]; exact ⟨rfl, rfl⟩))
    (fun os started H enc _ => lifted os started H enc)
theorem card : Rows.RowsFormsCardSaid :=
  Claim7.holds_tied_plain_at .later [] [.data, .data, .data, .data, .pinned] true (true, "3fbdbdc6005f940d9b2637db3a20e2190d23d3aac91fe9574c23040e4f9c7ab4") true
    over (fun _ h => by cases h) (by kernel_rfl) (fun _ h => by cases h) rowsForms_row_tie rfl ⟨rfl, rfl⟩ (by kernel_rfl) rfl
    (fun f fn hf hfn => by
      obtain rfl : f = 6 := Option.some.inj ((show Tryz.prog.funcNamed "tactician/tacticianlaw02.RowsForms" = some 6 by kernel_rfl).symm.trans hf) |>.symm
      obtain rfl : fn = Tryz.f6 := (Option.some.inj (Tryz.func6.symm.trans hfn)).symm
      refine ⟨by kernel_rfl, fun j t ht => ?_⟩
      rw [Tryz.params6] at ht
      have hm := Array.mem_of_getElem? ht
      simp only [List.mem_toArray, List.mem_cons, List.mem_nil_iff, or_false] at hm
      rcases hm with rfl | rfl | rfl
      · exact (show Tryz.prog.wantsStandIn 49 = false by kernel_rfl)
      · exact (show Tryz.prog.wantsStandIn 22 = false by kernel_rfl)
      · exact (show Tryz.prog.wantsStandIn 4 = false by kernel_rfl))
    (by kernel_rfl)
end Go.Proofs.YtmhobbdedmjmnaaGreatDoor.rowsForms
namespace Go.Proofs.YtmhobbdedmjmnaaGreatDoor
/-- The card, under a short name, for the claim. -/
theorem rowsForms_card : Rows.RowsFormsCardSaid := rowsForms.card
end Go.Proofs.YtmhobbdedmjmnaaGreatDoor
end
