/- What the law ValueMorgan computes answers as it says, in plain words: no program in sight. -/
import Derived.Test.YtinhpbmoiamepaaDoorQ11
import Derived.Test.YtinhpbmoiamepaaDoorPureTruth
namespace Go.Proofs.YtinhpbmoiamepaaDoor
open Go.RowKit Go.Proofs.YtinhpbmoiamepaaDoor.Q Go.Proofs.YtinhpbmoiamepaaDoorW.PrintWords Go.Proofs.YtinhpbmoiamepaaDoorW.PrintLast Go.Proofs.YtinhpbmoiamepaaDoorW.PrintMore
set_option linter.unusedSimpArgs false

/-- null, false, true -/
def vN : V := ⟨0, 0, ⟨#[]⟩⟩
def vF : V := ⟨2, 0, ⟨#[]⟩⟩
def vT : V := ⟨2, 1, ⟨#[]⟩⟩
def Good (v : V) : Prop := v = vN ∨ v = vF ∨ v = vT
def ntV (v : V) : V := ⟨(notV v.f0 v.f1 v.f2).1, (notV v.f0 v.f1 v.f2).2.1, (notV v.f0 v.f1 v.f2).2.2⟩
theorem good_truth {v : V} (h : Good v) : isV v = true ∧ truthV v = true := by
  rcases h with rfl | rfl | rfl <;> exact ⟨by decide, by decide⟩
theorem good_E {l : List V} (h : ∀ v ∈ l, Good v) (hl : l.length ≤ 20000) : truthsE l = 0 := by
  have h1 : l.all isV = true := List.all_eq_true.2 fun v hv => (good_truth (h v hv)).1
  have h2 : l.all truthV = true := List.all_eq_true.2 fun v hv => (good_truth (h v hv)).2
  have h3 : ¬ 20000 < l.length := by omega
  unfold truthsE listE
  rw [if_neg h3, h1, h2]
  rfl
theorem good_nt {v : V} (h : Good v) : Good (ntV v) := by
  rcases h with rfl | rfl | rfl
  · exact .inl rfl
  · exact .inr (.inr rfl)
  · exact .inr (.inl rfl)
theorem vnot_good {v : V} (h : Good v) : value_Not.f v.f0 v.f1 v.f2 = some ((ntV v).f0, (ntV v).f1, (ntV v).f2, 0) := by
  rw [vnot_at, show truthsE [(⟨v.f0, v.f1, v.f2⟩ : V)] = 0 from good_E (l := [v]) (by simpa using h) (by simp), if_pos rfl]
  rfl
theorem morgan_loop (l : List V) (x : Int) : ∀ (d i k : Nat) (X : List V), i + d = 12 → X.length = i → (∀ v ∈ X, Good v) → 2 * d + 44 ≤ k →
    ∃ (Y : List V) (i' : Int) (k' : Nat), (∀ v ∈ Y, Good v) ∧ Y.length ≤ 12 ∧ tacticianlaw01_ValueMorgan.l0 k l x X (X.map ntV) (i : Int) = tacticianlaw01_ValueMorgan.j1 (k' + 20) l x Y (Y.map ntV) i' false := by
  intro d
  induction d with
  | zero =>
    intro i k X hi hX hg hk
    obtain ⟨k, rfl⟩ : ∃ m, k = m + 21 := ⟨k - 21, by omega⟩
    refine ⟨X, i, k, hg, by omega, ?_⟩
    simp only [tacticianlaw01_ValueMorgan.l0]
    rw [show decide ((i : Int) < 12) = false from decide_eq_false (by omega)]
    split <;> rfl
  | succ d ih =>
    intro i k X hi hX hg hk
    by_cases hlt : i < l.length
    · obtain ⟨k, rfl⟩ : ∃ m, k = m + 2 := ⟨k - 2, by omega⟩
      simp only [tacticianlaw01_ValueMorgan.l0]
      rw [if_pos (by omega), show decide ((i : Int) < 12) = true from decide_eq_true (by omega)]
      simp only [tacticianlaw01_ValueMorgan.j1, if_true]
      unfold tacticianref01_Null.f tacticianref01_Bool.f
      simp only [Option.bind_some]
      rw [if_pos (by omega), if_pos (by omega)]
      have hadd : ∀ v, Good v → ∃ (Y : List V) (i' : Int) (k' : Nat), (∀ v ∈ Y, Good v) ∧ Y.length ≤ 12 ∧ tacticianlaw01_ValueMorgan.l0 k l x (X ++ [v]) (X.map ntV ++ [ntV v]) (wrap64 ((i : Int) + 1)) = tacticianlaw01_ValueMorgan.j1 (k' + 20) l x Y (Y.map ntV) i' false := by
        intro v hv
        have := ih (i + 1) k (X ++ [v]) (by omega) (by simp [hX]) (by
          intro u hu
          rcases List.mem_append.1 hu with h | h
          · exact hg u h
          · rw [List.mem_singleton.1 h]; exact hv) (by omega)
        rw [wrap_small (n := (i : Int) + 1) (by omega) (by omega), show ((i : Int) + 1) = ((i + 1 : Nat) : Int) by omega]
        rw [List.map_append] at this
        exact this
      by_cases h0 : (rd_T25 l (i : Int)).f0 = 0
      · rw [if_pos h0, show value_Not.f 0 0 ⟨#[]⟩ = some (0, 0, ⟨#[]⟩, 0) from vnot_good (v := vN) (.inl rfl)]
        simp only [Option.bind_some, if_true]
        rw [if_pos (by omega), if_pos (by rw [List.length_map]; omega)]
        exact hadd vN (.inl rfl)
      · rw [if_neg h0]
        by_cases h1 : (Int.tmod (rd_T25 l (i : Int)).f1 2 != 0) = true
        · rw [h1]
          simp only [if_true, Option.bind_some]
          rw [show value_Not.f 2 1 ⟨#[]⟩ = some (2, 0, ⟨#[]⟩, 0) from vnot_good (v := vT) (.inr (.inr rfl))]
          simp only [if_true, Option.bind_some]
          rw [if_pos (by omega), if_pos (by rw [List.length_map]; omega)]
          exact hadd vT (.inr (.inr rfl))
        · rw [Bool.not_eq_true] at h1
          rw [h1]
          simp only [Bool.false_eq_true, if_false, Option.bind_some]
          rw [show value_Not.f 2 0 ⟨#[]⟩ = some (2, 1, ⟨#[]⟩, 0) from vnot_good (v := vF) (.inr (.inl rfl))]
          simp only [if_true, Option.bind_some]
          rw [if_pos (by omega), if_pos (by rw [List.length_map]; omega)]
          exact hadd vF (.inr (.inl rfl))
    · obtain ⟨k, rfl⟩ : ∃ m, k = m + 21 := ⟨k - 21, by omega⟩
      refine ⟨X, i, k, hg, by omega, ?_⟩
      simp only [tacticianlaw01_ValueMorgan.l0]
      rw [if_neg (by omega)]
theorem any_nt {l : List V} (h : ∀ v ∈ l, Good v) : ((l.map ntV).any fun v => eqV v 2 1 ⟨#[]⟩) = l.any fun v => eqV v 2 0 ⟨#[]⟩ := by
  induction l with
  | nil => rfl
  | cons v r ih =>
    rw [List.map_cons, List.any_cons, List.any_cons, ih fun u hu => h u (List.mem_cons_of_mem _ hu)]
    congr 1
    rcases h v List.mem_cons_self with rfl | rfl | rfl <;> first | decide | simp [eqV, ntV, notV, vF, vN, vT]
theorem any_nt0 {l : List V} (h : ∀ v ∈ l, Good v) : ((l.map ntV).any fun v => decide (v.f0 = 0)) = l.any fun v => decide (v.f0 = 0) := by
  induction l with
  | nil => rfl
  | cons v r ih =>
    rw [List.map_cons, List.any_cons, List.any_cons, ih fun u hu => h u (List.mem_cons_of_mem _ hu)]
    congr 1
    rcases h v List.mem_cons_self with rfl | rfl | rfl <;> first | decide | simp [eqV, ntV, notV, vF, vN, vT]
theorem join_nt {l : List V} (h : ∀ v ∈ l, Good v) : joinV 2 0 ⟨#[]⟩ 2 1 ⟨#[]⟩ (l.map ntV) = notV (joinV 2 1 ⟨#[]⟩ 2 0 ⟨#[]⟩ l).1 (joinV 2 1 ⟨#[]⟩ 2 0 ⟨#[]⟩ l).2.1 (joinV 2 1 ⟨#[]⟩ 2 0 ⟨#[]⟩ l).2.2 := by
  rw [joinV_eq, joinV_eq, any_nt h, any_nt0 h]
  split
  · rfl
  · split <;> rfl
theorem join_good (s0 d1 : Int) (hd : (s0 = 0 ∨ s0 = 1) ∧ (d1 = 0 ∨ d1 = 1)) (l : List V) : Good ⟨(joinV 2 s0 ⟨#[]⟩ 2 d1 ⟨#[]⟩ l).1, (joinV 2 s0 ⟨#[]⟩ 2 d1 ⟨#[]⟩ l).2.1, (joinV 2 s0 ⟨#[]⟩ 2 d1 ⟨#[]⟩ l).2.2⟩ := by
  rw [joinV_eq]
  rcases hd with ⟨rfl | rfl, rfl | rfl⟩ <;> split <;> first
    | exact .inr (.inl rfl)
    | exact .inr (.inr rfl)
    | (split <;> first | exact .inl rfl | exact .inr (.inl rfl) | exact .inr (.inr rfl))
theorem any_back (l : List V) (n : Nat) (p : V → Bool) : (l.drop n ++ l).any p = l.any p := by
  rw [List.any_append]
  by_cases h : (l.drop n).any p = true
  · obtain ⟨v, hv, hp⟩ := List.any_eq_true.1 h
    rw [h, List.any_eq_true.2 ⟨v, List.mem_of_mem_drop hv, hp⟩]; rfl
  · rw [Bool.not_eq_true] at h; rw [h, Bool.false_or]
theorem join_back (s0 s1 : Int) (s2 : ByteArray) (d0 d1 : Int) (d2 : ByteArray) (l : List V) (n : Nat) : joinV s0 s1 s2 d0 d1 d2 (l.drop n ++ l) = joinV s0 s1 s2 d0 d1 d2 l := by
  rw [joinV_eq, joinV_eq, any_back, any_back]
theorem morgan_j4 (Y : List V) (hg : ∀ v ∈ Y, Good v) (hl : Y.length ≤ 12) (n k : Nat) (hn : n ≤ Y.length) :
    tacticianlaw01_ValueMorgan.j4 (k + 1) Y (n : Int) (joinV 2 1 ⟨#[]⟩ 2 0 ⟨#[]⟩ Y).1 (joinV 2 1 ⟨#[]⟩ 2 0 ⟨#[]⟩ Y).2.1 (joinV 2 1 ⟨#[]⟩ 2 0 ⟨#[]⟩ Y).2.2 = some true := by
  simp only [tacticianlaw01_ValueMorgan.j4, Option.bind_some]
  have hd : (Y.drop n).length ≤ 12 := by rw [List.length_drop]; omega
  rw [if_pos (by omega), if_pos (by omega), show ((n : Int).toNat) = n by omega]
  rw [if_pos (by simp only [List.length_nil]; omega)]
  rw [if_pos (by simp only [List.length_append, List.length_nil]; omega)]
  rw [List.nil_append]
  have hg2 : ∀ v ∈ Y.drop n ++ Y, Good v := by
    intro v hv
    rcases List.mem_append.1 hv with h | h
    · exact hg v (List.mem_of_mem_drop h)
    · exact hg v h
  have hl2 : (Y.drop n ++ Y).length ≤ 24 := by rw [List.length_append]; omega
  rw [vand_at _ (by omega), vor_at _ (by omega), vor_at _ (by omega), good_E hg2 (by omega), good_E hg (by omega), join_back, join_back]
  simp only [if_true, Option.bind_some]
  rw [if_pos (eq_self _ _ _), if_pos (eq_self _ _ _)]
  rfl
theorem pure_ValueMorgan : ∀ (l0 : (List V)) (a1 : Int), (l0.length * 32 ≤ 140737488351232 ∧ l0.length ≤ maxLen ∧ ∀ x ∈ l0, (Lit.int .i64 x.f0).wf = true ∧ (Lit.int .i64 x.f1).wf = true ∧ x.f2.size ≤ 140737488351232) → ((Lit.int .u8 a1).wf = true) → ∃ k, Q.tacticianlaw01_ValueMorgan.f k (l0) (a1) = some true := by
  intro l x _ hx
  refine ⟨100, ?_⟩
  have hx0 : 0 ≤ x ∧ x ≤ 255 := by
    have := hx
    simp [Lit.wf, IntKind.min, IntKind.max, IntKind.signed, IntKind.bits] at this
    omega
  unfold tacticianlaw01_ValueMorgan.f
  obtain ⟨Y, i', k', hg, hl, e⟩ := morgan_loop l x 12 0 100 [] rfl rfl (by simp) (by omega)
  rw [show ([] : List V) = ([] : List V).map ntV from rfl] 
  refine e.trans ?_
  simp only [tacticianlaw01_ValueMorgan.j1, Bool.false_eq_true, if_false]
  have hg2 : ∀ v ∈ Y.map ntV, Good v := by
    intro v hv
    obtain ⟨u, hu, rfl⟩ := List.mem_map.1 hv
    exact good_nt (hg u hu)
  rw [vand_at Y (by omega), vor_at _ (by rw [List.length_map]; omega), good_E hg (by omega), good_E hg2 (by rw [List.length_map]; omega), join_nt hg]
  simp only [if_true, Option.bind_some]
  rw [show ((0 : Int) != 0) = false from rfl]
  simp only [tacticianlaw01_ValueMorgan.j2, Bool.false_eq_true, if_false]
  have hgj := join_good 1 0 ⟨.inr rfl, .inl rfl⟩ Y
  have hj4 := morgan_j4 Y hg hl
  generalize joinV 2 1 ⟨#[]⟩ 2 0 ⟨#[]⟩ Y = A at hgj hj4 ⊢
  rw [show value_Not.f A.1 A.2.1 A.2.2 = _ from vnot_good hgj]
  simp only [if_true, Option.bind_some, ntV]
  rw [ne_self]
  simp only [tacticianlaw01_ValueMorgan.j3, Bool.false_eq_true, if_false]
  by_cases h0 : (Y.length : Int) > 0
  · rw [if_pos h0, if_neg (by omega)]
    have hw : wrap64 x = x := by rw [wrap_small (by omega) (by omega)]
    rw [hw]
    have h1 : 0 ≤ Int.tmod x (Y.length : Int) := Int.tmod_nonneg _ hx0.1
    have h2 : Int.tmod x (Y.length : Int) < (Y.length : Int) := Int.tmod_lt_of_pos _ h0
    obtain ⟨n, hn⟩ : ∃ n : Nat, Int.tmod x (Y.length : Int) = (n : Int) := ⟨(Int.tmod x (Y.length : Int)).toNat, by omega⟩
    rw [hn]
    exact hj4 n _ (by omega)
  · rw [if_neg h0]
    exact hj4 0 _ (Nat.zero_le _)
end Go.Proofs.YtinhpbmoiamepaaDoor
