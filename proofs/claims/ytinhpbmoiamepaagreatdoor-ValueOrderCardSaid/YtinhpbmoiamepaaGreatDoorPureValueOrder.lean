/- What the law ValueOrder computes answers as it says, in plain words: no program in sight. -/
import Derived.Test.YtinhpbmoiamepaaGreatDoorQ12
import Derived.Test.YtinhpbmoiamepaaGreatDoorPlainSort
import Derived.Test.YtinhpbmoiamepaaGreatDoorPureTame
namespace Go.Proofs.YtinhpbmoiamepaaGreatDoor
open Go.RowKit Go.Proofs.YtinhpbmoiamepaaGreatDoor.Q Go.Proofs.YtinhpbmoiamepaaGreatDoorW.PrintWords Go.Proofs.YtinhpbmoiamepaaGreatDoorW.PrintLast Go.Proofs.YtinhpbmoiamepaaGreatDoorW.PrintMore
set_option linter.unusedSimpArgs false

theorem wf_in3 {n : Int} (h : (Lit.int .i64 n).wf = true) : inI64 n = true := by
  have h2 := h
  simp [Lit.wf, IntKind.min, IntKind.max, IntKind.signed, IntKind.bits] at h2
  exact inI64_mk (by omega) (by omega)
theorem leV_on (a b c : V) (h1 : leV a b = true) (h2 : leV b c = true) : leV a c = true := by
  rw [leV_iff, decide_eq_true_eq] at *
  exact cfV_tc.on a b c h1 h2
theorem leV_all (a b : V) : (leV a b || leV b a) = true := by
  rw [leV_iff, leV_iff]
  have := cfV_tc.turn a b
  by_cases h : cfV a b ≤ 0
  · simp [h]
  · simp [h]; omega
theorem cmpL_small : ∀ x y : List UInt8, -1 ≤ cmpL x y ∧ cmpL x y ≤ 1
  | [], [] => by simp [cmpL]
  | [], _ :: _ => by simp [cmpL]
  | _ :: _, [] => by simp [cmpL]
  | a :: x, b :: y => by
    simp only [cmpL]
    split
    · omega
    · split
      · omega
      · exact cmpL_small x y
theorem cmpI_small (a b : Int) : -1 ≤ cmpI a b ∧ cmpI a b ≤ 1 := by
  unfold cmpI
  split
  · omega
  · split <;> omega
theorem cfV_small (x y : V) : -1 ≤ cfV x y ∧ cfV x y ≤ 1 := by
  unfold cfV ordV
  split
  · exact cmpI_small _ _
  · split
    · exact cmpI_small _ _
    · exact cmpL_small _ _
theorem less_at (x y : V) (hx : isV x = true) (hy : isV y = true) : tacticianlaw01_less.f x.f0 x.f1 x.f2 y.f0 y.f1 y.f2 = some (cfV x y, true) := by
  unfold tacticianlaw01_less.f value_Compare.f value_right.f value_Order_s.f
  have h1 : listE [(⟨x.f0, x.f1, x.f2⟩ : V), (⟨y.f0, y.f1, y.f2⟩ : V)] = 0 := by
    show listE [x, y] = 0
    unfold listE
    rw [if_neg (by simp), if_pos (by simp [hx, hy])]
  simp only [Option.bind_some]
  rw [h1, if_pos rfl]
  rfl
theorem eq_iff (x y : V) : (x.f0 == y.f0 && (x.f1 == y.f1 && (x.f2.toList == y.f2.toList))) = decide (x = y) := by
  by_cases h : x = y
  · subst h; simp
  · rw [show decide (x = y) = false from decide_eq_false h]
    by_cases h0 : x.f0 = y.f0
    · by_cases h1 : x.f1 = y.f1
      · by_cases h2 : x.f2.toList = y.f2.toList
        · exfalso
          rw [ByteArray.toList_eq, ByteArray.toList_eq] at h2
          have h3 : x.f2 = y.f2 := ba_ext h2
          apply h
          cases x; cases y
          dsimp only at h0 h1 h3
          rw [h0, h1, h3]
        · simp [h2]
      · simp [h1]
    · simp [h0]
theorem order_loop (s : List V) (hl : s.length = 4) (hv : ∀ v ∈ s, isV v = true) (hs : s.Pairwise fun a b => leV a b = true) : ∀ (d i k : Nat), i + d = 4 → 1 ≤ i → d < k → tacticianlaw01_ValueOrder.l0 k s (i : Int) = some true := by
  intro d
  induction d with
  | zero =>
    intro i k hi h1 hk
    obtain ⟨k, rfl⟩ : ∃ m, k = m + 1 := ⟨k - 1, by omega⟩
    simp only [tacticianlaw01_ValueOrder.l0]
    rw [if_neg (by omega)]
    rfl
  | succ d ih =>
    intro i k hi h1 hk
    obtain ⟨k, rfl⟩ : ∃ m, k = m + 1 := ⟨k - 1, by omega⟩
    obtain ⟨j, rfl⟩ : ∃ j, i = j + 1 := ⟨i - 1, by omega⟩
    have hj : j < s.length := by omega
    have hj1 : j + 1 < s.length := by omega
    have hw : wrap64 (((j + 1 : Nat) : Int) - 1) = (j : Int) := by rw [wrap_small (by omega) (by omega)]; omega
    have hw2 : wrap64 (((j + 1 : Nat) : Int) + 1) = ((j + 1 + 1 : Nat) : Int) := by rw [wrap_small (by omega) (by omega)]; omega
    have hc : cfV s[j] s[j + 1] ≤ 0 := by
      have := (List.pairwise_iff_getElem.1 hs) j (j + 1) hj hj1 (by omega)
      rw [leV_iff, decide_eq_true_eq] at this
      exact this
    simp only [tacticianlaw01_ValueOrder.l0]
    rw [hw, hw2, if_pos (by omega), if_pos (by omega), if_pos (by omega), if_pos (by omega), if_pos (by omega), rd_at s j hj, rd_at s (j + 1) hj1, less_at _ _ (hv _ (List.getElem_mem hj)) (hv _ (List.getElem_mem hj1))]
    simp only [Option.bind_some, if_true]
    rw [if_neg (by omega)]
    exact ih (j + 1 + 1) k (by omega) (by omega) (by omega)
theorem order_j0 (x y z : V) (hx : isV x = true) (hy : isV y = true) (hz : isV z = true) (k : Nat) (hk : 20 < k) : tacticianlaw01_ValueOrder.j0 k false x.f0 x.f1 x.f2 y.f0 y.f1 y.f2 z.f0 z.f1 z.f2 = some true := by
  obtain ⟨k, rfl⟩ : ∃ m, k = m + 2 := ⟨k - 2, by omega⟩
  have hv : ∀ v ∈ [x, y, z, x], isV v = true := by
    intro v hm
    simp only [List.mem_cons, List.not_mem_nil, or_false] at hm
    rcases hm with rfl | rfl | rfl | rfl <;> assumption
  have hE : listE [x, y, z, x] = 0 := by
    unfold listE
    rw [if_neg (by simp), if_pos (List.all_eq_true.2 hv)]
  have hS : value_Sorted.f [(⟨x.f0, x.f1, x.f2⟩ : V), (⟨y.f0, y.f1, y.f2⟩ : V), (⟨z.f0, z.f1, z.f2⟩ : V), (⟨x.f0, x.f1, x.f2⟩ : V)] = some (sortV [x, y, z, x], 0) := by
    show value_Sorted.f [x, y, z, x] = _
    unfold value_Sorted.f
    rw [if_pos hE]
  have hl : (sortV [x, y, z, x]).length = 4 := by rw [sortV_length]; rfl
  simp only [tacticianlaw01_ValueOrder.j0]
  rw [if_neg (by simp), hS]
  simp only [Option.bind_some, if_true]
  rw [hl, show (((4 : Nat) : Int) != 4) = false from rfl]
  simp only [tacticianlaw01_ValueOrder.j1]
  rw [if_neg (by simp)]
  exact order_loop (sortV [x, y, z, x]) hl (fun v hm => hv v (List.mem_mergeSort.1 hm)) (List.pairwise_mergeSort leV_on leV_all _) 3 1 k (by omega) (by omega) (by omega)
theorem pure_ValueOrder : ∀ (a0 : V) (a1 : V) (a2 : V), ((Lit.int .i64 a0.f0).wf = true ∧ (Lit.int .i64 a0.f1).wf = true ∧ a0.f2.size ≤ 140737488351232) → ((Lit.int .i64 a1.f0).wf = true ∧ (Lit.int .i64 a1.f1).wf = true ∧ a1.f2.size ≤ 140737488351232) → ((Lit.int .i64 a2.f0).wf = true ∧ (Lit.int .i64 a2.f1).wf = true ∧ a2.f2.size ≤ 140737488351232) → ∃ k, Q.tacticianlaw01_ValueOrder.f k (a0.f0) (a0.f1) (a0.f2) (a1.f0) (a1.f1) (a1.f2) (a2.f0) (a2.f1) (a2.f2) = some true := by
  intro a b c ha hb hc
  refine ⟨100, ?_⟩
  obtain ⟨x0, x1, x2, ex, hx⟩ := tame_ok a.f0 a.f1 a.f2 (wf_in3 ha.2.1) ha.2.2 100 (by omega)
  obtain ⟨y0, y1, y2, ey, hy⟩ := tame_ok b.f0 b.f1 b.f2 (wf_in3 hb.2.1) hb.2.2 100 (by omega)
  obtain ⟨z0, z1, z2, ez, hz⟩ := tame_ok c.f0 c.f1 c.f2 (wf_in3 hc.2.1) hc.2.2 100 (by omega)
  have hx' : isV (⟨x0, x1, x2⟩ : V) = true := by unfold okV at hx; rw [Bool.and_eq_true] at hx; exact hx.1
  have hy' : isV (⟨y0, y1, y2⟩ : V) = true := by unfold okV at hy; rw [Bool.and_eq_true] at hy; exact hy.1
  have hz' : isV (⟨z0, z1, z2⟩ : V) = true := by unfold okV at hz; rw [Bool.and_eq_true] at hz; exact hz.1
  have hj := order_j0 (⟨x0, x1, x2⟩ : V) (⟨y0, y1, y2⟩ : V) (⟨z0, z1, z2⟩ : V) hx' hy' hz' 100 (by omega)
  have l1 := less_at (⟨x0, x1, x2⟩ : V) (⟨y0, y1, y2⟩ : V) hx' hy'
  have l2 := less_at (⟨y0, y1, y2⟩ : V) (⟨x0, x1, x2⟩ : V) hy' hx'
  have l3 := less_at (⟨y0, y1, y2⟩ : V) (⟨z0, z1, z2⟩ : V) hy' hz'
  have l4 := less_at (⟨x0, x1, x2⟩ : V) (⟨z0, z1, z2⟩ : V) hx' hz'
  have he := eq_iff (⟨x0, x1, x2⟩ : V) (⟨y0, y1, y2⟩ : V)
  have hsm := cfV_small (⟨x0, x1, x2⟩ : V) (⟨y0, y1, y2⟩ : V)
  have ht := cfV_tc.turn (⟨x0, x1, x2⟩ : V) (⟨y0, y1, y2⟩ : V)
  have hon := cfV_tc.on (⟨x0, x1, x2⟩ : V) (⟨y0, y1, y2⟩ : V) (⟨z0, z1, z2⟩ : V)
  have hlt := cfV_tc.lt (x := (⟨x0, x1, x2⟩ : V)) (y := (⟨y0, y1, y2⟩ : V)) (z := (⟨z0, z1, z2⟩ : V))
  have h0 : (cfV (⟨x0, x1, x2⟩ : V) (⟨y0, y1, y2⟩ : V) == 0) = decide ((⟨x0, x1, x2⟩ : V) = (⟨y0, y1, y2⟩ : V)) := by
    by_cases h : (⟨x0, x1, x2⟩ : V) = (⟨y0, y1, y2⟩ : V)
    · rw [show decide ((⟨x0, x1, x2⟩ : V) = (⟨y0, y1, y2⟩ : V)) = true from decide_eq_true h, h, cfV_tc.refl]; rfl
    · rw [show decide ((⟨x0, x1, x2⟩ : V) = (⟨y0, y1, y2⟩ : V)) = false from decide_eq_false h]
      have : cfV (⟨x0, x1, x2⟩ : V) (⟨y0, y1, y2⟩ : V) ≠ 0 := fun e => h (cfV_tc.same _ _ e)
      simpa using this
  unfold tacticianlaw01_ValueOrder.f
  rw [ex, ey, ez]
  dsimp only at hj l1 l2 l3 l4 he
  simp only [Option.bind_some]
  rw [l1, l2, l3, l4]
  simp only [Option.bind_some, if_true]
  rw [he, h0]
  generalize cfV (⟨x0, x1, x2⟩ : V) (⟨y0, y1, y2⟩ : V) = p at *
  generalize cfV (⟨y0, y1, y2⟩ : V) (⟨x0, x1, x2⟩ : V) = q at *
  generalize cfV (⟨y0, y1, y2⟩ : V) (⟨z0, z1, z2⟩ : V) = r at *
  generalize cfV (⟨x0, x1, x2⟩ : V) (⟨z0, z1, z2⟩ : V) = s at *
  have hw : wrap64 (-q) = p := by unfold wrap64; omega
  rw [hw, if_pos rfl, if_neg (by simp)]
  by_cases p1 : p ≤ 0
  · rw [if_pos p1]
    by_cases r1 : r ≤ 0
    · have s1 := hon p1 r1
      rw [if_pos r1, if_neg (by omega)]
      by_cases p2 : p < 0
      · have s2 := hlt p2 r1
        rw [if_pos p2, decide_eq_false (by omega)]
        exact hj
      · rw [if_neg p2]; exact hj
    · rw [if_neg r1]
      split <;> exact hj
  · rw [if_neg p1, if_neg (by omega)]
    exact hj
end Go.Proofs.YtinhpbmoiamepaaGreatDoor
