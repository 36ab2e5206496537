/- The reference's Sorted, Distinct and Same, in plain words: no program in sight. -/
import Derived.Test.YtinhpbmoiamepaaGreatDoorQ16
import Derived.Test.YtinhpbmoiamepaaGreatDoorQ17
import Derived.Test.YtinhpbmoiamepaaGreatDoorQ14
import Derived.Test.YtinhpbmoiamepaaGreatDoorPlainSort
namespace Go.Proofs.YtinhpbmoiamepaaGreatDoor
open Go.RowKit Go.Proofs.YtinhpbmoiamepaaGreatDoor.Q Go.Proofs.YtinhpbmoiamepaaGreatDoorW.PrintWords Go.Proofs.YtinhpbmoiamepaaGreatDoorW.PrintLast Go.Proofs.YtinhpbmoiamepaaGreatDoorW.PrintMore
set_option linter.unusedSimpArgs false

theorem leV_trans (a b c : V) (h1 : leV a b = true) (h2 : leV b c = true) : leV a c = true := by
  rw [leV_iff, decide_eq_true_eq] at *
  exact cfV_tc.on a b c h1 h2
theorem leV_total (a b : V) : (leV a b || leV b a) = true := by
  rw [leV_iff, leV_iff]
  have := cfV_tc.turn a b
  by_cases h : cfV a b ≤ 0
  · simp [h]
  · simp [h]; omega
theorem leV_anti (a b : V) (h1 : leV a b = true) (h2 : leV b a = true) : a = b := by
  rw [leV_iff, decide_eq_true_eq] at *
  have := cfV_tc.turn a b
  exact cfV_tc.same a b (by omega)
theorem sortV_unique {l r : List V} (hp : r.Perm l) (hs : r.Pairwise fun a b => leV a b = true) : r = sortV l :=
  List.Perm.eq_of_pairwise (fun a b _ _ h1 h2 => leV_anti a b h1 h2) hs (List.pairwise_mergeSort leV_trans leV_total l) (hp.trans (List.mergeSort_perm l leV).symm)
theorem sortV_mem {l : List V} {v : V} : v ∈ sortV l ↔ v ∈ l := List.mem_mergeSort
def Sm (v : V) : Prop := v.f2.size ≤ 4611686018427387904
theorem refCompare (x y : V) (hx : Sm x) (hy : Sm y) : tacticianref01_Compare_s.f x.f0 x.f1 x.f2 y.f0 y.f1 y.f2 = some (cfV x y) := by
  unfold tacticianref01_Compare_s.f
  rw [if_pos ⟨hx, hy⟩]
  rfl
theorem merge_loop (a b : List V) (ha : ∀ v ∈ a, Sm v) (hb : ∀ v ∈ b, Sm v) (hl : a.length + b.length ≤ 1000000) : ∀ (d i j k : Nat) (out : List V), (a.length - i) + (b.length - j) = d → i ≤ a.length → j ≤ b.length → out.length + d ≤ 1000000 → 2 * d + 2 ≤ k →
    tacticianref01_Sorted.l0 k a b out (i : Int) (j : Int) = some (out ++ (a.drop i).merge (b.drop j) leV) := by
  intro d
  induction d with
  | zero =>
    intro i j k out hd hi hj ho hk
    obtain ⟨k, rfl⟩ : ∃ m, k = m + 2 := ⟨k - 2, by omega⟩
    have h1 : ¬ (i : Int) < (a.length : Int) := by omega
    have h2 : ¬ (j : Int) < (b.length : Int) := by omega
    rw [tacticianref01_Sorted.l0, if_neg h1, decide_eq_false h2, tacticianref01_Sorted.j1, if_neg (by decide), List.drop_of_length_le (by omega), List.drop_of_length_le (by omega), List.merge, List.append_nil]
  | succ d ih =>
    intro i j k out hd hi hj ho hk
    obtain ⟨k, rfl⟩ : ∃ m, k = m + 2 := ⟨k - 2, by omega⟩
    have hk' : 2 * d + 2 ≤ k := by omega
    have mj : j < b.length → a.length - i + (b.length - (j + 1)) = d := fun h => by omega
    have mi : i < a.length → a.length - (i + 1) + (b.length - j) = d := fun h => by omega
    have ml : ¬ j < b.length → i < a.length := fun h => by omega
    have hgo : tacticianref01_Sorted.l0 (k + 2) a b out (i : Int) (j : Int) = tacticianref01_Sorted.j1 (k + 1) a b out (i : Int) (j : Int) true := by
      rw [tacticianref01_Sorted.l0]
      by_cases h : (i : Int) < (a.length : Int)
      · rw [if_pos h]
      · rw [if_neg h, decide_eq_true (show (j : Int) < (b.length : Int) by omega)]
    rw [hgo, tacticianref01_Sorted.j1, if_pos rfl]
    have w1 : wrap64 ((i : Int) + 1) = ((i + 1 : Nat) : Int) := by rw [wrap_small (by omega) (by omega)]; omega
    have w2 : wrap64 ((j : Int) + 1) = ((j + 1 : Nat) : Int) := by rw [wrap_small (by omega) (by omega)]; omega
    rw [w1, w2]
    have hol : out.length < 4398046511104 := by omega
    have hout : ∀ x : V, (out ++ [x]).length + d ≤ 1000000 := fun x => by simp only [List.length_append, List.length_singleton]; omega
    have i0 : (0 : Int) ≤ (i : Int) := Int.natCast_nonneg i
    have j0 : (0 : Int) ≤ (j : Int) := Int.natCast_nonneg j
    by_cases hjl : j < b.length
    · have jl : (j : Int) < (b.length : Int) := Int.ofNat_lt.2 hjl
      have je : ¬ (j : Int) = (b.length : Int) := Int.ne_of_lt jl
      have eb : b.drop j = b[j] :: b.drop (j + 1) := List.drop_eq_getElem_cons hjl
      have ihj := fun x => ih i (j + 1) k (out ++ [x]) (mj hjl) hi hjl (hout x) hk'
      rw [if_neg je]
      by_cases hil : i < a.length
      · have il : (i : Int) < (a.length : Int) := Int.ofNat_lt.2 hil
        have ea : a.drop i = a[i] :: a.drop (i + 1) := List.drop_eq_getElem_cons hil
        have ihi := fun x => ih (i + 1) j k (out ++ [x]) (mi hil) hil hj (hout x) hk'
        rw [if_pos il, if_pos i0, if_pos j0, if_pos jl, rd_at a i hil, rd_at b j hjl, refCompare _ _ (ha _ (List.getElem_mem hil)) (hb _ (List.getElem_mem hjl)), Option.bind_some]
        by_cases hc : cfV a[i] b[j] ≤ 0
        · rw [if_pos hc, if_pos hol]
          refine (ihi a[i]).trans ?_
          have hle : leV a[i] b[j] = true := by rw [leV_iff]; exact decide_eq_true hc
          have e : (a.drop i).merge (b.drop j) leV = a[i] :: (a.drop (i + 1)).merge (b.drop j) leV := by rw [ea, eb]; exact List.cons_merge_cons_pos leV _ _ hle
          rw [e, List.append_assoc]
          rfl
        · rw [if_neg hc, if_pos hol]
          refine (ihj b[j]).trans ?_
          have hle : ¬ leV a[i] b[j] = true := by rw [leV_iff, decide_eq_true_eq]; exact hc
          have e : (a.drop i).merge (b.drop j) leV = b[j] :: (a.drop i).merge (b.drop (j + 1)) leV := by rw [ea, eb]; exact List.cons_merge_cons_neg leV _ _ hle
          rw [e, List.append_assoc]
          rfl
      · have il : ¬ (i : Int) < (a.length : Int) := fun h => hil (Int.ofNat_lt.1 h)
        rw [if_neg il, if_pos j0, if_pos jl, if_pos hol, rd_at b j hjl]
        refine (ihj b[j]).trans ?_
        rw [List.drop_of_length_le (Nat.le_of_not_lt hil), eb, List.nil_merge, List.nil_merge, List.append_assoc]
        rfl
    · have hje : j = b.length := Nat.le_antisymm hj (Nat.le_of_not_lt hjl)
      have je : (j : Int) = (b.length : Int) := by rw [hje]
      have hil : i < a.length := ml hjl
      clear hje
      have il : (i : Int) < (a.length : Int) := Int.ofNat_lt.2 hil
      have ea : a.drop i = a[i] :: a.drop (i + 1) := List.drop_eq_getElem_cons hil
      have ihi := fun x => ih (i + 1) j k (out ++ [x]) (mi hil) hil hj (hout x) hk'
      rw [if_pos je, if_pos i0, if_pos il, if_pos hol, rd_at a i hil]
      refine (ihi a[i]).trans ?_
      rw [List.drop_of_length_le (Nat.le_of_not_lt hjl), ea, List.merge_right, List.merge_right, List.append_assoc]
      rfl
theorem refSorted_go : ∀ (n : Nat) (l : List V), l.length ≤ n → n ≤ 1000000 → (∀ v ∈ l, Sm v) → ∀ k, 2 * l.length + 4 ≤ k → tacticianref01_Sorted.f k l = some (sortV l) := by
  intro n
  induction n with
  | zero =>
    intro l hl _ _ k hk
    obtain rfl : l = [] := List.length_eq_zero_iff.1 (by omega)
    obtain ⟨k, rfl⟩ : ∃ m, k = m + 1 := ⟨k - 1, by omega⟩
    simp [tacticianref01_Sorted.f, sortV]
  | succ n ih =>
    intro l hl hn hs k hk
    obtain ⟨k, rfl⟩ : ∃ m, k = m + 1 := ⟨k - 1, by omega⟩
    simp only [tacticianref01_Sorted.f, Option.bind_some]
    by_cases h2 : l.length < 2
    · rw [if_pos (by omega), if_pos (by simp only [List.length_nil]; omega), List.nil_append]
      congr 1
      refine sortV_unique (List.Perm.refl _) ?_
      match l, h2 with
      | [], _ => exact List.Pairwise.nil
      | [x], _ => exact List.pairwise_singleton _ _
      | _ :: _ :: _, h => simp at h; omega
    · have hw : wrap64 ((l.length : Int) / 2) = ((l.length / 2 : Nat) : Int) := by rw [wrap_small (by omega) (by omega)]; omega
      rw [if_neg (by omega), hw, if_pos (by omega), if_pos (by omega), Int.toNat_natCast]
      have ht : (l.take (l.length / 2)).length = l.length / 2 := by rw [List.length_take]; omega
      have hd : (l.drop (l.length / 2)).length = l.length - l.length / 2 := List.length_drop
      rw [ih (l.take (l.length / 2)) (by omega) (by omega) (fun v hv => hs v (List.mem_of_mem_take hv)) k (by omega), ih (l.drop (l.length / 2)) (by omega) (by omega) (fun v hv => hs v (List.mem_of_mem_drop hv)) k (by omega)]
      simp only [Option.bind_some]
      have h3 := merge_loop (sortV (l.take (l.length / 2))) (sortV (l.drop (l.length / 2))) (fun v hv => hs v (List.mem_of_mem_take (sortV_mem.1 hv))) (fun v hv => hs v (List.mem_of_mem_drop (sortV_mem.1 hv)))
        (by rw [sortV_length, sortV_length]; omega) l.length 0 0 k [] (by rw [sortV_length, sortV_length]; omega) (Nat.zero_le _) (Nat.zero_le _) (by rw [List.length_nil]; omega) (by omega)
      rw [show (0 : Int) = ((0 : Nat) : Int) from rfl, h3, List.nil_append, List.drop_zero, List.drop_zero]
      congr 1
      refine sortV_unique ?_ (List.pairwise_merge leV_trans leV_total _ _ (List.pairwise_mergeSort leV_trans leV_total _) (List.pairwise_mergeSort leV_trans leV_total _))
      refine List.Perm.trans (List.merge_perm_append (le := leV)) ?_
      refine (List.Perm.append (List.mergeSort_perm _ _) (List.mergeSort_perm _ _)).trans ?_
      rw [List.take_append_drop]
theorem refSorted (l : List V) (hl : l.length ≤ 1000000) (hs : ∀ v ∈ l, Sm v) (k : Nat) (hk : 2 * l.length + 4 ≤ k) : tacticianref01_Sorted.f k l = some (sortV l) := refSorted_go l.length l (Nat.le_refl _) hl hs k hk
theorem ne_iff (x y : V) : (!(x.f0 == y.f0) || (!(x.f1 == y.f1) || (!(x.f2.toList == y.f2.toList)))) = decide (x ≠ y) := by
  by_cases h : x = y
  · subst h; simp
  · rw [show decide (x ≠ y) = true from decide_eq_true h]
    by_cases h0 : x.f0 = y.f0
    · by_cases h1 : x.f1 = y.f1
      · by_cases h2 : x.f2.toList = y.f2.toList
        · exfalso
          rw [ByteArray.toList_eq, ByteArray.toList_eq] at h2
          have h3 : x.f2 = y.f2 := ba_ext h2
          apply h
          cases x; cases y
          dsimp only at h0 h1 h3
          rw [h0, h1, h3]
        · simp [h2]
      · simp [h1]
    · simp [h0]
theorem distinct_loop (s : List V) (hl : s.length ≤ 1000000) : ∀ (d i k : Nat), i + d = s.length → d < k →
    tacticianref01_Distinct.l0 k s (Lib.compactUpTo s.toArray i) (i : Int) = some (onceV s) := by
  intro d
  induction d with
  | zero =>
    intro i k hi hk
    obtain ⟨k, rfl⟩ : ∃ m, k = m + 1 := ⟨k - 1, by omega⟩
    simp only [tacticianref01_Distinct.l0]
    rw [if_neg (by omega)]
    have : i = s.length := by omega
    subst this
    rfl
  | succ d ih =>
    intro i k hi hk
    obtain ⟨k, rfl⟩ : ∃ m, k = m + 1 := ⟨k - 1, by omega⟩
    have hlt : i < s.length := by omega
    have hlen : (Lib.compactUpTo s.toArray i).length ≤ i := by
      unfold Lib.compactUpTo
      rw [List.length_map]
      exact Nat.le_trans (List.length_filter_le _ _) (by simp)
    have hstep := ih (i + 1) k (by omega) (by omega)
    rw [Lib.compactUpTo_succ] at hstep
    have e1 : s.toArray[i]! = s[i] := by simp [hlt]
    have hw : wrap64 ((i : Int) + 1) = ((i + 1 : Nat) : Int) := by rw [wrap_small (by omega) (by omega)]; omega
    simp only [tacticianref01_Distinct.l0]
    rw [if_pos (by omega)]
    by_cases h0 : i = 0
    · subst h0
      rw [if_pos (show ((0 : Nat) : Int) = 0 from rfl), if_pos (show (0 : Int) ≤ ((0 : Nat) : Int) from Int.le_refl 0), if_pos (by omega), rd_at s 0 hlt, hw]
      rw [Lib.keeps_lt_one _ 0 (by omega), if_pos rfl, e1] at hstep
      exact hstep
    · have hw2 : wrap64 ((i : Int) - 1) = ((i - 1 : Nat) : Int) := by rw [wrap_small (by omega) (by omega)]; omega
      have hlt2 : i - 1 < s.length := by omega
      have e2 : s.toArray[i - 1]! = s[i - 1] := by simp [hlt2]
      rw [if_neg (by omega), if_pos (by omega), hw2, if_pos (by omega), if_pos (by omega), rd_at s i hlt, rd_at s (i - 1) hlt2, ne_iff, hw]
      by_cases h : s[i] = s[i - 1]
      · rw [decide_eq_false (by simpa using h), if_neg (by simp)]
        rw [Lib.keeps_neg (by omega) (by rw [e1, e2]; exact h), if_neg (by simp), List.append_nil] at hstep
        exact hstep
      · rw [decide_eq_true h, if_pos rfl, if_pos (by omega)]
        rw [Lib.keeps_pos (by rw [e1, e2]; exact h), if_pos rfl, e1] at hstep
        exact hstep
theorem refDistinct (l : List V) (hl : l.length ≤ 1000000) (hs : ∀ v ∈ l, Sm v) (k : Nat) (hk : 2 * l.length + 4 ≤ k) : tacticianref01_Distinct.f k l = some (onceV (sortV l)) := by
  unfold tacticianref01_Distinct.f
  rw [refSorted l hl hs k hk]
  simp only [Option.bind_some]
  exact distinct_loop (sortV l) (by rw [sortV_length]; exact hl) (sortV l).length 0 k (by omega) (by rw [sortV_length]; omega)
theorem same_loop (s : List V) (hl : s.length ≤ 1000000) : ∀ (d i k : Nat), i + d = s.length → d < k → tacticianref01_Same.l0 k s s (i : Int) = some true := by
  intro d
  induction d with
  | zero =>
    intro i k hi hk
    obtain ⟨k, rfl⟩ : ∃ m, k = m + 1 := ⟨k - 1, by omega⟩
    simp only [tacticianref01_Same.l0]
    rw [if_neg (by omega)]
  | succ d ih =>
    intro i k hi hk
    obtain ⟨k, rfl⟩ : ∃ m, k = m + 1 := ⟨k - 1, by omega⟩
    have hlt : i < s.length := by omega
    simp only [tacticianref01_Same.l0]
    rw [if_pos (by omega), if_pos (by omega), if_pos (by omega), ne_iff, decide_eq_false (by simp), if_neg (by simp), wrap_small (n := (i : Int) + 1) (by omega) (by omega), show ((i : Int) + 1) = ((i + 1 : Nat) : Int) by omega]
    exact ih (i + 1) k (by omega) (by omega)
theorem refSame (s : List V) (hl : s.length ≤ 1000000) (k : Nat) (hk : s.length < k) : tacticianref01_Same.f k s s = some true := by
  unfold tacticianref01_Same.f
  rw [if_pos rfl]
  exact same_loop s hl s.length 0 k (by omega) hk
theorem isV_small {v : V} (h : isV v = true) : Sm v := by
  unfold Sm
  rcases isB_cases h with z | z | z | z
  · rw [z.2.2]; decide
  · rw [z.2]; decide
  · rw [z.2.2]; decide
  · have := z.2.2.1; omega
theorem onceV_length (l : List V) : (onceV l).length ≤ l.length := by
  unfold onceV Lib.compactUpTo
  rw [List.length_map]
  exact Nat.le_trans (List.length_filter_le _ _) (by simp)
end Go.Proofs.YtinhpbmoiamepaaGreatDoor
