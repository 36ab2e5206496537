/- What the law ValueBack computes answers as it says, in plain words: no program in sight. -/
import Derived.Test.YtinhpbmoiamepaaDoorQ20
import Derived.Test.YtinhpbmoiamepaaDoorPureParse
namespace Go.Proofs.YtinhpbmoiamepaaDoor
open Go.RowKit Go.Proofs.YtinhpbmoiamepaaDoor.Q Go.Proofs.YtinhpbmoiamepaaDoorW.PrintWords Go.Proofs.YtinhpbmoiamepaaDoorW.PrintLast Go.Proofs.YtinhpbmoiamepaaDoorW.PrintMore

theorem tame_loop (t : ByteArray) (ht : t.size ≤ 140737488351232) (p q : Int) : ∀ (d i k : Nat) (acc : ByteArray), i + d = min t.size 12 → d < k → acc.size = i → prL acc.data.toList = true →
    ∃ c, tacticianref01_Tame.l0 k acc (i : Int) p q t = some (3, 0, c) ∧ c.size ≤ 12 ∧ prL c.data.toList = true := by
  intro d
  induction d with
  | zero =>
    intro i k acc hi hk hs hp
    obtain ⟨k, rfl⟩ : ∃ m, k = m + 1 := ⟨k - 1, by omega⟩
    refine ⟨acc, ?_, by omega, hp⟩
    simp only [tacticianref01_Tame.l0]
    by_cases h : i < t.size
    · rw [if_pos (by omega), if_neg (by omega)]; rfl
    · rw [if_neg (by omega)]; rfl
  | succ d ih =>
    intro i k acc hi hk hs hp
    obtain ⟨k, rfl⟩ : ∃ m, k = m + 1 := ⟨k - 1, by omega⟩
    have hlt : i < t.size := by omega
    have hb := bt_get t i hlt
    generalize t.data.toList[i]'(by rw [Array.length_toList]; exact hlt) = c at hb
    have hc : c.toNat < 256 := c.toNat_lt
    simp only [tacticianref01_Tame.l0]
    rw [if_pos (by omega), if_pos (by omega), if_pos (by omega), hb]
    have hm : Int.tmod (c.toNat : Int) 95 = ((c.toNat % 95 : Nat) : Int) := rfl
    rw [hm]
    have hn : ((32 + ((c.toNat % 95 : Nat) : Int)) % 256) = ((32 + c.toNat % 95 : Nat) : Int) := by omega
    rw [hn]
    simp only [Option.bind_some]
    have hsz : (strOfNums [((32 + c.toNat % 95 : Nat) : Int)]).size = 1 := strOfNums_size _
    have hd : (strOfNums [((32 + c.toNat % 95 : Nat) : Int)]).data.toList = [UInt8.ofNat (32 + c.toNat % 95)] := rfl
    rw [if_pos (by rw [hsz]; omega), wrap_small (n := (i : Int) + 1) (by omega) (by omega), show ((i : Int) + 1) = ((i + 1 : Nat) : Int) by omega]
    refine ih (i + 1) k _ (by omega) (by omega) (by rw [ByteArray.size_append, hsz, hs]) ?_
    rw [append_data, hd]
    unfold prL at hp ⊢
    rw [List.all_append, hp]
    have e : (UInt8.ofNat (32 + c.toNat % 95)).toNat = 32 + c.toNat % 95 := by rw [UInt8.toNat_ofNat']; omega
    simp only [List.all_cons, List.all_nil, e, Bool.true_and, Bool.and_true, Bool.and_eq_true, decide_eq_true_eq]
    omega
theorem okV_of_text {c : ByteArray} (h : c.size ≤ 200) (hp : prL c.data.toList = true) : okV 3 0 c = true := by
  unfold okV isB
  simp [h, hp]
  decide
theorem tame_ok (a b : Int) (c : ByteArray) (hb : inI64 b = true) (hc : c.size ≤ 140737488351232) (k : Nat) (hk : 20 < k) : ∃ a' b' c', tacticianref01_Tame.f k a b c = some (a', b', c') ∧ okV a' b' c' = true := by
  unfold tacticianref01_Tame.f
  split
  · exact ⟨1, b, ⟨#[]⟩, rfl, by unfold okV; rw [hb]; rfl⟩
  · split
    · cases (Int.tmod b 2 != 0) with
      | true => exact ⟨2, 1, ⟨#[]⟩, rfl, by decide⟩
      | false => exact ⟨2, 0, ⟨#[]⟩, rfl, by decide⟩
    · split
      · obtain ⟨d, e, hs, hp⟩ := tame_loop c hc a b (min c.size 12) 0 k ⟨#[]⟩ (by omega) (by omega) rfl rfl
        exact ⟨3, 0, d, e, okV_of_text (by omega) hp⟩
      · exact ⟨0, 0, ⟨#[]⟩, rfl, by decide⟩
theorem back_j2 (s : ByteArray) (k : Nat) : tacticianlaw01_ValueBack.j2 (k + 1) s false = some true := by
  have hm := mn_le (s.size : Int) 450 (by omega) (by omega)
  simp only [tacticianlaw01_ValueBack.j2]
  rw [if_neg (by simp), if_pos hm.1, if_pos hm.2.1]
  have hs : (s.extract 0 (mn (s.size : Int) 450).toNat).size ≤ 450 := by rw [ByteArray.size_extract]; omega
  generalize s.extract 0 (mn (s.size : Int) 450).toNat = t at hs
  cases hr : readC t with
  | mk a r =>
    obtain ⟨b, c, o⟩ := r
    cases o with
    | true =>
      obtain ⟨z1, z2⟩ := readC_true t hr
      have z3 : inI64 b = true := by unfold okV at z1; rw [Bool.and_eq_true] at z1; exact z1.2
      have z4 : isB a b c = true := by unfold okV at z1; rw [Bool.and_eq_true] at z1; exact z1.1
      have z5 : isV ⟨a, b, c⟩ = true := z4
      rw [parse_true (by omega) hr]
      simp only [Option.bind_some, if_true]
      rw [string_at a b c z3, if_pos z4]
      simp only [Option.bind_some, if_true]
      rw [z2, if_pos rfl, check_at, listE_one, if_pos z5]
      rfl
    | false =>
      rw [parse_false (by omega) hr]
      simp [tacticianlaw01_awake.f]
theorem back_j1 (s : ByteArray) (k : Nat) (a b : Int) (c : ByteArray) (h : okV a b c = true) : tacticianlaw01_ValueBack.j1 (k + 2) s a b c = some true := by
  have z3 : inI64 b = true := by unfold okV at h; rw [Bool.and_eq_true] at h; exact h.2
  have z4 : isB a b c = true := by unfold okV at h; rw [Bool.and_eq_true] at h; exact h.1
  have hz := writ_size h
  simp only [tacticianlaw01_ValueBack.j1]
  rw [string_at a b c z3, if_pos z4]
  simp only [Option.bind_some]
  rw [parse_true (by omega) (readC_writ h)]
  simp only [Option.bind_some, if_true]
  exact back_j2 s k
theorem pure_ValueBack : ∀ (a0 : V) (a1 : ByteArray), ((Lit.int .i64 a0.f0).wf = true ∧ (Lit.int .i64 a0.f1).wf = true ∧ a0.f2.size ≤ 140737488351232) → (a1.size ≤ 140737488351232) → ∃ k, Q.tacticianlaw01_ValueBack.f k (a0.f0) (a0.f1) (a0.f2) (a1) = some true := by
  intro v s hv hs
  refine ⟨103, ?_⟩
  obtain ⟨a', b', c', e, hok⟩ := tame_ok v.f0 v.f1 v.f2 (wf_in hv.2.1) hv.2.2 103 (by omega)
  unfold tacticianlaw01_ValueBack.f
  rw [e]
  simp only [Option.bind_some]
  by_cases h3 : v.f0 = 3
  · rw [if_pos h3]
    have hc := cut_at [v] 1 103 (by omega) (by omega)
    rw [show (([(⟨v.f0, v.f1, v.f2⟩ : V)] : List V)) = [v] from rfl, show (1 : Int) = ((1 : Nat) : Int) from rfl, hc]
    simp only [List.take_succ_cons, List.take_zero, List.map_cons, List.map_nil, Option.bind_some, List.length_cons, List.length_nil]
    have e0 : rd_T25 [cutV v] 0 = cutV v := rd_at [cutV v] 0 (by simp)
    rw [if_pos (by omega), e0]
    simp only [tacticianref01_Right_s.f, Option.bind_some, tacticianlaw01_ValueBack.j0]
    by_cases hb : isB (cutV v).f0 (cutV v).f1 (cutV v).f2 = true
    · rw [if_pos hb]
      refine back_j1 s 100 _ _ _ ?_
      have hz : (cutV v).f2 = v.f2 := by
        have hb2 := hb
        rw [show (cutV v).f0 = 3 from h3] at hb2
        have hle : (cutV v).f2.size ≤ 200 := by
          unfold isB at hb2
          simp only [if_neg (show ¬ (3 : Int) = 0 by decide), if_neg (show ¬ (3 : Int) = 1 by decide), if_neg (show ¬ (3 : Int) = 2 by decide), if_pos trivial, Bool.and_eq_true, decide_eq_true_eq] at hb2
          exact hb2.1.2
        have hsz : (cutV v).f2.size = (mn (v.f2.size : Int) 202).toNat := by
          have := mn_le (v.f2.size : Int) 202 (by omega) (by omega)
          show (v.f2.extract 0 _).size = _
          rw [ByteArray.size_extract]
          omega
        have hmn : mn (v.f2.size : Int) 202 = v.f2.size := by
          rw [hsz] at hle
          unfold mn at hle ⊢
          split at hle
          · omega
          · rw [if_neg (by assumption)]
        show v.f2.extract 0 (mn (v.f2.size : Int) 202).toNat = v.f2
        rw [hmn]
        exact ByteArray.extract_zero_size
      unfold okV
      rw [← hz, wf_in hv.2.1]
      rw [show isB v.f0 v.f1 (cutV v).f2 = true from hb]
      rfl
    · rw [if_neg hb]
      exact back_j1 s 100 _ _ _ hok
  · rw [if_neg h3]
    simp only [tacticianlaw01_ValueBack.j0]
    rw [if_neg (by simp)]
    exact back_j1 s 100 _ _ _ hok
end Go.Proofs.YtinhpbmoiamepaaDoor
