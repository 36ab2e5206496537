/- What the law ValueTruths computes answers as it says, in plain words: no program in sight. -/
import Derived.Test.YtinhpbmoiamepaaGreatDoorQ15
import Derived.Test.YtinhpbmoiamepaaGreatDoorPureTruth
import Derived.Test.YtinhpbmoiamepaaGreatDoorPureCut
namespace Go.Proofs.YtinhpbmoiamepaaGreatDoor
open Go.RowKit Go.Proofs.YtinhpbmoiamepaaGreatDoor.Q Go.Proofs.YtinhpbmoiamepaaGreatDoorW.PrintWords Go.Proofs.YtinhpbmoiamepaaGreatDoorW.PrintLast Go.Proofs.YtinhpbmoiamepaaGreatDoorW.PrintMore
set_option linter.unusedSimpArgs false

theorem some_loop (l : List V) (hl : l.length ≤ 1000000) (a b : Int) (c : ByteArray) : ∀ (d i k : Nat), i + d = l.length → d < k →
    tacticianref01_some.l0 k l (i : Int) a b c = some ((l.drop i).any fun v => eqV v a b c) := by
  intro d
  induction d with
  | zero =>
    intro i k hi hk
    obtain ⟨k, rfl⟩ : ∃ m, k = m + 1 := ⟨k - 1, by omega⟩
    simp only [tacticianref01_some.l0]
    rw [if_neg (by omega), List.drop_of_length_le (by omega)]
    rfl
  | succ d ih =>
    intro i k hi hk
    obtain ⟨k, rfl⟩ : ∃ m, k = m + 1 := ⟨k - 1, by omega⟩
    have hlt : i < l.length := by omega
    simp only [tacticianref01_some.l0]
    rw [rd_at l i hlt, if_pos (by omega), if_pos (by omega), List.drop_eq_getElem_cons hlt, List.any_cons]
    show (if eqV l[i] a b c = true then _ else _) = _
    by_cases h : eqV l[i] a b c = true
    · rw [if_pos h, h]; rfl
    · rw [if_neg h, wrap_small (n := (i : Int) + 1) (by omega) (by omega), show ((i : Int) + 1) = ((i + 1 : Nat) : Int) by omega, ih (i + 1) k (by omega) (by omega)]
      simp only [Bool.not_eq_true] at h
      rw [h, Bool.false_or]
theorem some_at (l : List V) (hl : l.length ≤ 1000000) (a b : Int) (c : ByteArray) (k : Nat) (hk : l.length < k) : tacticianref01_some.f k l a b c = some (l.any fun v => eqV v a b c) := by
  unfold tacticianref01_some.f
  exact some_loop l hl a b c l.length 0 k (by omega) hk
theorem truths_loop (l : List V) (hl : l.length ≤ 1000000) : ∀ (d i k : Nat), i + d = l.length → d < k →
    tacticianref01_Truths.l0 k l (i : Int) = some ((l.drop i).all truthV) := by
  intro d
  induction d with
  | zero =>
    intro i k hi hk
    obtain ⟨k, rfl⟩ : ∃ m, k = m + 1 := ⟨k - 1, by omega⟩
    simp only [tacticianref01_Truths.l0]
    rw [if_neg (by omega), List.drop_of_length_le (by omega)]
    rfl
  | succ d ih =>
    intro i k hi hk
    obtain ⟨k, rfl⟩ : ∃ m, k = m + 1 := ⟨k - 1, by omega⟩
    have hlt : i < l.length := by omega
    simp only [tacticianref01_Truths.l0]
    rw [rd_at l i hlt, if_pos (by omega), if_pos (by omega), List.drop_eq_getElem_cons hlt, List.all_cons,
      wrap_small (n := (i : Int) + 1) (by omega) (by omega), show ((i : Int) + 1) = ((i + 1 : Nat) : Int) by omega, ih (i + 1) k (by omega) (by omega)]
    unfold truthV
    by_cases h2 : l[i].f0 = 2
    · rw [if_pos h2, h2]; simp
    · rw [if_neg h2]
      by_cases h0 : l[i].f0 = 0
      · rw [if_pos h0, h0]; simp
      · rw [if_neg h0]; simp [h2, h0]
theorem truths_at (l : List V) (hl : l.length ≤ 1000000) (k : Nat) (hk : l.length < k) : tacticianref01_Truths.f k l = some (l.all truthV) := by
  unfold tacticianref01_Truths.f
  exact truths_loop l hl l.length 0 k (by omega) hk
/-- among values, null is what has the kind null -/
theorem null_any (l : List V) (h : l.all isV = true) : (l.any fun v => decide (v.f0 = 0)) = l.any fun v => eqV v 0 0 ⟨#[]⟩ := by
  induction l with
  | nil => rfl
  | cons v r ih =>
    rw [List.all_cons, Bool.and_eq_true] at h
    rw [List.any_cons, List.any_cons, ih h.2]
    congr 1
    have hv := h.1
    by_cases h0 : v.f0 = 0
    · have hv2 : isB v.f0 v.f1 v.f2 = true := hv
      rcases isB_cases hv2 with z | z | z | z
      · unfold eqV
        rw [z.1, z.2.1, z.2.2]
        simp
      · omega
      · omega
      · omega
    · unfold eqV
      simp [h0]
theorem and_at (l : List V) (hl : l.length ≤ 1000000) (k : Nat) (hk : l.length < k) (hv : l.all isV = true) : tacticianref01_And.f k l = some (joinV 2 1 ⟨#[]⟩ 2 0 ⟨#[]⟩ l) := by
  rw [joinV_eq, null_any l hv]
  unfold tacticianref01_And.f tacticianref01_Bool.f tacticianref01_Null.f
  rw [if_neg (by simp), if_pos rfl]
  simp only [Option.bind_some]
  rw [some_at l hl _ _ _ k hk, some_at l hl _ _ _ k hk]
  simp only [Option.bind_some]
  split
  · rfl
  · split <;> rfl
theorem or_at (l : List V) (hl : l.length ≤ 1000000) (k : Nat) (hk : l.length < k) (hv : l.all isV = true) : tacticianref01_Or.f k l = some (joinV 2 0 ⟨#[]⟩ 2 1 ⟨#[]⟩ l) := by
  rw [joinV_eq, null_any l hv]
  unfold tacticianref01_Or.f tacticianref01_Bool.f tacticianref01_Null.f
  rw [if_pos rfl, if_neg (by simp)]
  simp only [Option.bind_some]
  rw [some_at l hl _ _ _ k hk, some_at l hl _ _ _ k hk]
  simp only [Option.bind_some]
  split
  · rfl
  · split <;> rfl
theorem not_at (a b : Int) (c : ByteArray) : tacticianref01_Not.f a b c = some (notV a b c) := by
  unfold tacticianref01_Not.f tacticianref01_Bool.f notV
  by_cases h : a = 0
  · rw [if_pos h, if_pos h]
  · rw [if_neg h, if_neg h]
    by_cases h1 : b = 0 <;> simp [h1]
theorem long_loop (l : List V) (h0 : l.length ≤ 40) (b : Bool) : ∀ (d k : Nat) (out : List V), 20001 ≤ out.length + d → out.length ≤ 20040 → d < k →
    ∃ m, tacticianlaw01_Long.l0 k l b out = some m ∧ m.length ≤ 20040 := by
  intro d
  induction d with
  | zero =>
    intro k out hi ho hk
    obtain ⟨k, rfl⟩ : ∃ m, k = m + 1 := ⟨k - 1, by omega⟩
    refine ⟨out, ?_, ho⟩
    simp only [tacticianlaw01_Long.l0]
    rw [if_neg (show ¬ (out.length : Int) ≤ 20000 by omega)]
    split
    · split <;> rfl
    · rfl
  | succ d ih =>
    intro k out hi ho hk
    obtain ⟨k, rfl⟩ : ∃ m, k = m + 1 := ⟨k - 1, by omega⟩
    simp only [tacticianlaw01_Long.l0]
    by_cases hb : b = true
    · rw [if_pos hb]
      by_cases h1 : l.length = 0
      · rw [if_neg (by omega)]; exact ⟨out, rfl, ho⟩
      · rw [if_pos (by omega)]
        by_cases h2 : out.length ≤ 20000
        · rw [if_pos (by omega), if_pos (by omega)]
          exact ih k _ (by rw [List.length_append]; omega) (by rw [List.length_append]; omega) (by omega)
        · rw [if_neg (by omega)]; exact ⟨out, rfl, ho⟩
    · rw [if_neg hb]; exact ⟨out, rfl, ho⟩
theorem long_at (l : List V) (h0 : l.length ≤ 40) (b : Bool) (k : Nat) (hk : 20001 < k) : ∃ m, tacticianlaw01_Long.f k l b = some m ∧ m.length ≤ 20040 := by
  unfold tacticianlaw01_Long.f
  simp only [Option.bind_some]
  rw [if_pos (by simp only [List.length_nil]; omega)]
  exact long_loop l h0 b 20001 k _ (by simp) (by simp; omega) hk
theorem truths_j4 (L : List V) (hL : L.length ≤ 1000000) (k : Nat) (hk : L.length < k) (A O : Int × Int × ByteArray × Int)
    (hA : A = if truthsE L = 0 then ((joinV 2 1 ⟨#[]⟩ 2 0 ⟨#[]⟩ L).1, (joinV 2 1 ⟨#[]⟩ 2 0 ⟨#[]⟩ L).2.1, (joinV 2 1 ⟨#[]⟩ 2 0 ⟨#[]⟩ L).2.2, (0 : Int)) else (0, 0, ⟨#[]⟩, truthsE L))
    (hO : O = if truthsE L = 0 then ((joinV 2 0 ⟨#[]⟩ 2 1 ⟨#[]⟩ L).1, (joinV 2 0 ⟨#[]⟩ 2 1 ⟨#[]⟩ L).2.1, (joinV 2 0 ⟨#[]⟩ 2 1 ⟨#[]⟩ L).2.2, (0 : Int)) else (0, 0, ⟨#[]⟩, truthsE L)) :
    tacticianlaw01_ValueTruths.j4 (k + 1) L A.2.2.2 O.2.2.2 (truthsE L) false A.1 A.2.1 A.2.2.1 O.1 O.2.1 O.2.2.1 = some true := by
  simp only [tacticianlaw01_ValueTruths.j4]
  rw [if_neg (by simp)]
  by_cases h : truthsE L = 0
  · rw [if_pos h] at hA hO
    subst hA hO
    have hv := listE_all (truthsE_listE h)
    rw [if_pos h, and_at L hL k hk hv, or_at L hL k hk hv]
    simp only [Option.bind_some]
    rw [if_pos (eq_self _ _ _)]
    simp only [if_true]
    rw [if_pos (eq_self _ _ _)]
    rfl
  · rw [if_neg h] at hA hO
    subst hA hO
    rw [if_neg h]
    simp [empty_toList, tacticianlaw01_awake.f]
theorem truths_j3 (L : List V) (hL : L.length ≤ 1000000) (c : V) (k : Nat) (hk : L.length + 1 < k) (A O M : Int × Int × ByteArray × Int)
    (hA : A = if truthsE L = 0 then ((joinV 2 1 ⟨#[]⟩ 2 0 ⟨#[]⟩ L).1, (joinV 2 1 ⟨#[]⟩ 2 0 ⟨#[]⟩ L).2.1, (joinV 2 1 ⟨#[]⟩ 2 0 ⟨#[]⟩ L).2.2, (0 : Int)) else (0, 0, ⟨#[]⟩, truthsE L))
    (hO : O = if truthsE L = 0 then ((joinV 2 0 ⟨#[]⟩ 2 1 ⟨#[]⟩ L).1, (joinV 2 0 ⟨#[]⟩ 2 1 ⟨#[]⟩ L).2.1, (joinV 2 0 ⟨#[]⟩ 2 1 ⟨#[]⟩ L).2.2, (0 : Int)) else (0, 0, ⟨#[]⟩, truthsE L))
    (hM : M = if truthsE [c] = 0 then ((notV c.f0 c.f1 c.f2).1, (notV c.f0 c.f1 c.f2).2.1, (notV c.f0 c.f1 c.f2).2.2, (0 : Int)) else (0, 0, ⟨#[]⟩, truthsE [c])) :
    tacticianlaw01_ValueTruths.j3 (k + 1) L [c] A.2.2.2 O.2.2.2 M.2.2.2 (truthsE L) (truthsE [c]) A.1 A.2.1 A.2.2.1 O.1 O.2.1 O.2.2.1 M.1 M.2.1 M.2.2.1 = some true := by
  obtain ⟨k, rfl⟩ : ∃ m, k = m + 1 := ⟨k - 1, by omega⟩
  have hj := truths_j4 L hL k (by omega) A O hA hO
  have e0 : rd_T25 [c] 0 = c := rd_at [c] 0 (by simp)
  simp only [tacticianlaw01_ValueTruths.j3]
  by_cases h : truthsE [c] = 0
  · rw [if_pos h] at hM
    subst hM
    rw [if_pos h, if_pos (by simp), e0, not_at]
    simp only [Option.bind_some]
    rw [ne_self, if_neg (by simp), show ((0 : Int) != 0) = false from rfl]
    exact hj
  · rw [if_neg h] at hM
    subst hM
    rw [if_neg h, if_neg (by simp [empty_toList]), if_pos rfl]
    exact hj
theorem pure_ValueTruths : ∀ (l0 : (List V)) (a1 : V) (a2 : Bool), (l0.length * 32 ≤ 140737488351232 ∧ l0.length ≤ maxLen ∧ ∀ x ∈ l0, (Lit.int .i64 x.f0).wf = true ∧ (Lit.int .i64 x.f1).wf = true ∧ x.f2.size ≤ 140737488351232) → ((Lit.int .i64 a1.f0).wf = true ∧ (Lit.int .i64 a1.f1).wf = true ∧ a1.f2.size ≤ 140737488351232) → ∃ k, Q.tacticianlaw01_ValueTruths.f k (l0) (a1.f0) (a1.f1) (a1.f2) (a2) = some true := by
  intro l v b hl hv
  refine ⟨30010, ?_⟩
  unfold tacticianlaw01_ValueTruths.f
  have hc := cut_at l 40 30010 (by omega) (by omega)
  rw [show (40 : Int) = ((40 : Nat) : Int) from rfl, hc]
  simp only [Option.bind_some]
  obtain ⟨L, e, hL⟩ := long_at ((l.take 40).map cutV) (by rw [List.length_map, List.length_take]; omega) b 30010 (by omega)
  rw [e]
  have hc1 := cut_at [v] 1 30010 (by omega) (by omega)
  rw [show (([(⟨v.f0, v.f1, v.f2⟩ : V)] : List V)) = [v] from rfl, show (1 : Int) = ((1 : Nat) : Int) from rfl, hc1]
  simp only [List.take_succ_cons, List.take_zero, List.map_cons, List.map_nil, Option.bind_some]
  generalize cutV v = c
  have e0 : rd_T25 [c] 0 = c := rd_at [c] 0 (by simp)
  rw [vand_at L (by omega), vor_at L (by omega), e0, vnot_at]
  simp only [Option.bind_some, tacticianref01_List_s.f]
  rw [if_pos (by simp), truths_at L (by omega) 30010 (by omega)]
  simp only [Option.bind_some]
  have hj := truths_j3 L (by omega) c 30006 (by omega) _ _ _ rfl rfl rfl
  have hE : truthsE [(⟨c.f0, c.f1, c.f2⟩ : V)] = truthsE [c] := rfl
  rw [hE]
  have hT : ∀ k, tacticianref01_Truths.f (k + 2) [c] = some ([c].all truthV) := fun k => truths_at [c] (by simp) (k + 2) (by simp)
  have hj1 : ∀ A O M : Int × Int × ByteArray × Int, tacticianlaw01_ValueTruths.j1 30009 L [c] A.2.2.2 O.2.2.2 M.2.2.2 (truthsE L) (listE [c]) A.1 A.2.1 A.2.2.1 O.1 O.2.1 O.2.2.1 M.1 M.2.1 M.2.2.1 = tacticianlaw01_ValueTruths.j3 30007 L [c] A.2.2.2 O.2.2.2 M.2.2.2 (truthsE L) (truthsE [c]) A.1 A.2.1 A.2.2.1 O.1 O.2.1 O.2.2.1 M.1 M.2.1 M.2.2.1 := by
    intro A O M
    have h3 : ∀ x, tacticianlaw01_ValueTruths.j2 30008 L [c] A.2.2.2 O.2.2.2 M.2.2.2 (truthsE L) (listE [c]) x A.1 A.2.1 A.2.2.1 O.1 O.2.1 O.2.2.1 M.1 M.2.1 M.2.2.1 = tacticianlaw01_ValueTruths.j3 30007 L [c] A.2.2.2 O.2.2.2 M.2.2.2 (truthsE L) (if x = true then 1 else listE [c]) A.1 A.2.1 A.2.2.1 O.1 O.2.1 O.2.2.1 M.1 M.2.1 M.2.2.1 := by
      intro x
      rw [tacticianlaw01_ValueTruths.j2]
      split <;> rfl
    rw [tacticianlaw01_ValueTruths.j1]
    unfold truthsE
    by_cases h : listE [c] = 0
    · rw [if_pos h, hT 30006]
      simp only [Option.bind_some]
      rw [← truthsE, h3, if_pos h]
      cases [c].all truthV <;> simp [h]
    · rw [if_neg h, ← truthsE, h3, if_neg h]
      simp
  have hj0 : ∀ x, (∀ A O M : Int × Int × ByteArray × Int, tacticianlaw01_ValueTruths.j0 30010 L [c] A.2.2.2 O.2.2.2 M.2.2.2 (listE L) (listE [c]) x A.1 A.2.1 A.2.2.1 O.1 O.2.1 O.2.2.1 M.1 M.2.1 M.2.2.1 = tacticianlaw01_ValueTruths.j1 30009 L [c] A.2.2.2 O.2.2.2 M.2.2.2 (if x = true then 1 else listE L) (listE [c]) A.1 A.2.1 A.2.2.1 O.1 O.2.1 O.2.2.1 M.1 M.2.1 M.2.2.1) := by
    intro x A O M
    rw [tacticianlaw01_ValueTruths.j0]
    split <;> rfl
  by_cases h : listE L = 0
  · rw [if_pos h, hj0]
    have hx : (if (!(L.all truthV)) = true then 1 else listE L) = truthsE L := by
      unfold truthsE
      rw [if_pos h, h]
      cases L.all truthV <;> rfl
    rw [hx, hj1]
    exact hj
  · rw [if_neg h, hj0]
    have hx : (if false = true then 1 else listE L) = truthsE L := by
      unfold truthsE
      rw [if_neg h]
      rfl
    rw [hx, hj1]
    exact hj
end Go.Proofs.YtinhpbmoiamepaaGreatDoor
