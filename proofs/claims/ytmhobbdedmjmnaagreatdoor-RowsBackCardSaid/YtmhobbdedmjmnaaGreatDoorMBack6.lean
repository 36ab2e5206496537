/- Lemmas for the claim: contracts of functions and facts about what they compute, part 7 (texts put together, and cut down to what is used, by a program of ours). -/
import Derived.Test.YtmhobbdedmjmnaaGreatDoorMBack5
section
/- One row at the beginning of a string, as the program and the definition read it: the same; no program in sight. -/
namespace Go.Proofs.YtmhobbdedmjmnaaGreatDoor
open Go.RowKit Go.Proofs.YtmhobbdedmjmnaaGreatDoor.Q Go.Proofs.YtmhobbdedmjmnaaGreatDoorW.PrintWords Go.Proofs.YtmhobbdedmjmnaaGreatDoorW.PrintLast Go.Proofs.YtmhobbdedmjmnaaGreatDoorW.PrintMore
theorem valR_le (s : ByteArray) : 0 ≤ (valR s).2.2.2 ∧ (valR s).2.2.2 ≤ (s.size : Int) := by
  have hv : ∀ n, n ≤ s.size → 0 ≤ (valN s n).2.2.2 ∧ (valN s n).2.2.2 ≤ (s.size : Int) := fun n hn => by
    unfold valN
    by_cases h : (readC (s.extract 0 n)).2.2.2 = true
    · rw [if_pos h]; show 0 ≤ (n : Int) ∧ (n : Int) ≤ _; omega
    · rw [if_neg h]; show (0 : Int) ≤ 0 ∧ (0 : Int) ≤ _; omega
  unfold valR
  by_cases h : 0 < s.size ∧ bt s 0 = 39
  · rw [if_pos h]
    cases e : endQ s s.size 1 with
    | none => show (0 : Int) ≤ 0 ∧ (0 : Int) ≤ _; omega
    | some n => exact hv n (endQ_le s _ _ _ e).1
  · rw [if_neg h]
    exact hv _ (endW_le s _ _ (Nat.zero_le _))
theorem bt_extract (s : ByteArray) (a b j : Nat) (h : a + j < b) (hb : b ≤ s.size) : bt (s.extract a b) (j : Int) = bt s ((a + j : Nat) : Int) := by
  have h1 : j < (s.extract a b).size := by rw [ByteArray.size_extract]; omega
  have h2 : a + j < s.size := by omega
  unfold bt
  rw [dif_pos (show (j : Int).toNat < _ by rw [Int.toNat_natCast]; exact h1), dif_pos (show ((a + j : Nat) : Int).toNat < s.size by rw [Int.toNat_natCast]; exact h2)]
  simp only [Int.toNat_natCast]
  congr 2
  simp [ByteArray.getElem_extract]
theorem hasPrefix2 (s : ByteArray) (b c : UInt8) : strings_HasPrefix.f s (⟨#[b, c]⟩ : ByteArray) = some (decide (1 < s.size) && (decide (bt s 0 = (b.toNat : Int)) && decide (bt s 1 = (c.toNat : Int)))) := by
  obtain ⟨⟨d⟩⟩ := s
  have hb : (⟨#[b, c]⟩ : ByteArray).size = 2 := rfl
  unfold strings_HasPrefix.f stringslite_HasPrefix.f
  rw [hb]
  match d with
  | [] => rfl
  | [_] => rfl
  | x :: y :: r =>
    have hz : (⟨⟨x :: y :: r⟩⟩ : ByteArray).size = r.length + 2 := rfl
    have he : ((⟨⟨x :: y :: r⟩⟩ : ByteArray).extract 0 2).toList = [x, y] := by
      rw [ByteArray.toList_eq]
      simp [ByteArray.data_extract]
    have h0 : bt (⟨⟨x :: y :: r⟩⟩ : ByteArray) 0 = (x.toNat : Int) := rfl
    have h1 : bt (⟨⟨x :: y :: r⟩⟩ : ByteArray) 1 = (y.toNat : Int) := rfl
    rw [if_pos (by omega), if_pos (by omega), if_pos (by omega), Option.bind_some, show ((2 : Nat) : Int).toNat = 2 from rfl, he, h0, h1, decide_eq_true (show 1 < (⟨⟨x :: y :: r⟩⟩ : ByteArray).size by omega), Bool.true_and, ByteArray.toList_eq]
    congr 1
    have hu : ∀ u v : UInt8, decide ((u.toNat : Int) = (v.toNat : Int)) = (u == v) := fun u v => by
      by_cases h : u = v
      · subst h; simp
      · have : ¬ (u.toNat : Int) = (v.toNat : Int) := fun e => h (UInt8.toNat_inj.1 (by omega))
        rw [decide_eq_false this]
        simp [h]
    rw [hu, hu]
    simp
/-- the values of a row, from a place on -/
def readL (s : ByteArray) : Nat → Nat → List V → List V × Int
  | 0, _, _ => ([], 0)
  | d + 1, a, acc =>
    if (valR (s.extract a s.size)).2.2.2 = 0 then ([], 0) else
      let e := a + (valR (s.extract a s.size)).2.2.2.toNat
      let out := acc ++ [(⟨(valR (s.extract a s.size)).1, (valR (s.extract a s.size)).2.1, (valR (s.extract a s.size)).2.2.1⟩ : V)]
      if e < s.size ∧ bt s (e : Int) = 41 then (out, ((e + 1 : Nat) : Int)) else if e + 2 ≤ s.size ∧ bt s (e : Int) = 44 ∧ bt s ((e + 1 : Nat) : Int) = 32 then readL s d (e + 2) out else ([], 0)
theorem rows_l0 (s : ByteArray) (hs : s.size ≤ 20000) : ∀ (d a k : Nat) (acc : List V), s.size < a + d → a ≤ s.size → acc.length ≤ a → 2 * s.size + 10 + d < k →
    rows_Row.l0 k s (a : Int) acc = some (readL s d a acc) := by
  intro d
  induction d with
  | zero => intro a k acc h1 h2 _ _; omega
  | succ d ih =>
    intro a k acc h1 h2 hacc hk
    obtain ⟨k, rfl⟩ : ∃ m, k = m + 1 := ⟨k - 1, by omega⟩
    have hv : 0 ≤ (valR (s.extract a s.size)).2.2.2 ∧ (valR (s.extract a s.size)).2.2.2 + (a : Int) ≤ (s.size : Int) := by
      have h3 := valR_le (s.extract a s.size)
      rw [ByteArray.size_extract] at h3
      omega
    have hacc2 : acc.length < 4398046511104 := by omega
    have hv2 := rowsValue (s.extract a s.size) (by rw [ByteArray.size_extract]; omega) k (by rw [ByteArray.size_extract]; omega)
    unfold readL
    rw [rows_Row.l0, if_pos (by omega), if_pos (by omega), Int.toNat_natCast, hv2, Option.bind_some]
    clear hv2
    generalize valR (s.extract a s.size) = p at hv ⊢
    by_cases h0 : p.2.2.2 = 0
    · rw [if_pos h0, if_pos h0]
    · obtain ⟨n, hn⟩ : ∃ n : Nat, p.2.2.2 = (n : Int) := ⟨p.2.2.2.toNat, by omega⟩
      rw [if_neg h0, if_neg h0, if_pos hacc2, Option.bind_some, hn]
      rw [hn] at hv h0
      have hna : a + n ≤ s.size := by omega
      have hn0 : 0 < n := by omega
      clear hv h0 hacc2
      have e1 : wrap64 ((a : Int) + (n : Int)) = ((a + n : Nat) : Int) := by rw [wrap_small (by omega) (by omega)]; omega
      have e2 : wrap64 (((a + n : Nat) : Int) + 1) = ((a + n + 1 : Nat) : Int) := by rw [wrap_small (by omega) (by omega)]; omega
      have e3 : wrap64 (((a + n : Nat) : Int) + 2) = ((a + n + 2 : Nat) : Int) := by rw [wrap_small (by omega) (by omega)]; omega
      have z0 : 0 < (s.extract (a + n) s.size).size ↔ a + n < s.size := by rw [ByteArray.size_extract]; omega
      have z1 : 1 < (s.extract (a + n) s.size).size ↔ a + n + 2 ≤ s.size := by rw [ByteArray.size_extract]; omega
      have b0 : a + n < s.size → bt (s.extract (a + n) s.size) 0 = bt s ((a + n : Nat) : Int) := fun h => bt_extract s (a + n) s.size 0 (by omega) (Nat.le_refl _)
      have b1 : a + n + 2 ≤ s.size → bt (s.extract (a + n) s.size) 1 = bt s ((a + n + 1 : Nat) : Int) := fun h => bt_extract s (a + n) s.size 1 (by omega) (Nat.le_refl _)
      rw [e1, e2, e3, if_pos (by omega), if_pos (by omega), Int.toNat_natCast, Int.toNat_natCast, hasPrefix1, hasPrefix2, Option.bind_some]
      dsimp only
      by_cases hc : a + n < s.size ∧ bt s ((a + n : Nat) : Int) = 41
      · rw [if_pos hc, if_pos (by rw [decide_eq_true (z0.2 hc.1), Bool.true_and]; exact decide_eq_true ((b0 hc.1).trans hc.2))]
      · rw [if_neg hc, if_neg (fun e => hc (by
          rw [Bool.and_eq_true, decide_eq_true_eq, decide_eq_true_eq] at e
          exact ⟨z0.1 e.1, (b0 (z0.1 e.1)).symm.trans e.2⟩)), Option.bind_some]
        by_cases h2c : a + n + 2 ≤ s.size ∧ bt s ((a + n : Nat) : Int) = 44 ∧ bt s ((a + n + 1 : Nat) : Int) = 32
        · rw [if_pos h2c, if_pos (by rw [decide_eq_true (z1.2 h2c.1), Bool.true_and, Bool.and_eq_true]; exact ⟨decide_eq_true ((b0 (by omega)).trans h2c.2.1), decide_eq_true ((b1 h2c.1).trans h2c.2.2)⟩)]
          exact ih (a + n + 2) k _ (by omega) (by omega) (by rw [List.length_append, List.length_singleton]; omega) (by omega)
        · rw [if_neg h2c, if_neg (fun e => h2c (by
            rw [Bool.and_eq_true, Bool.and_eq_true, decide_eq_true_eq, decide_eq_true_eq, decide_eq_true_eq] at e
            have h5 := z1.1 e.1
            exact ⟨h5, (b0 (by omega)).symm.trans e.2.1, (b1 h5).symm.trans e.2.2⟩))]
end Go.Proofs.YtmhobbdedmjmnaaGreatDoor
end
section
/- A value, a row, rows at the beginning of a string: what is read has this very string, and each string of right ones is read; no program in sight. -/
namespace Go.Proofs.YtmhobbdedmjmnaaGreatDoor
open Go.RowKit Go.Proofs.YtmhobbdedmjmnaaGreatDoor.Q Go.Proofs.YtmhobbdedmjmnaaGreatDoorW.PrintWords Go.Proofs.YtmhobbdedmjmnaaGreatDoorW.PrintLast Go.Proofs.YtmhobbdedmjmnaaGreatDoorW.PrintMore
theorem drop_bt (s : ByteArray) (e : Nat) (c : UInt8) (he : e < s.size) (h : bt s (e : Int) = (c.toNat : Int)) : s.data.toList.drop e = c :: s.data.toList.drop (e + 1) := by
  have hl : e < s.data.toList.length := by rw [Array.length_toList]; exact he
  have h2 := bt_get s e he
  rw [h] at h2
  have h3 : s.data.toList[e] = c := UInt8.toNat_inj.1 (by omega)
  rw [List.drop_eq_getElem_cons hl, h3]
theorem bt_drop (s : ByteArray) (e : Nat) (c : UInt8) (r : List UInt8) (h : s.data.toList.drop e = c :: r) : e < s.size ∧ bt s (e : Int) = (c.toNat : Int) ∧ s.data.toList.drop (e + 1) = r := by
  have hl : e < s.data.toList.length := by
    apply Nat.lt_of_not_le
    intro q
    rw [List.drop_eq_nil_of_le q] at h
    cases h
  have he : e < s.size := by rw [Array.length_toList] at hl; exact hl
  rw [List.drop_eq_getElem_cons hl] at h
  injection h with h1 h2
  exact ⟨he, by rw [bt_get s e he, h1], h2⟩
theorem bt_nil (s : ByteArray) (e : Nat) (h : s.data.toList.drop e = []) : s.size ≤ e := by
  have := congrArg List.length h
  rw [List.length_drop, show s.data.toList.length = s.size from Array.length_toList, List.length_nil] at this
  omega
theorem data_drop (s : ByteArray) (a : Nat) : (s.extract a s.size).data.toList = s.data.toList.drop a := by
  rw [ByteArray.data_extract, Array.toList_extract]
  rw [List.extract_eq_drop_take', List.take_of_length_le (Nat.le_of_eq (show s.data.toList.length = s.size from Array.length_toList))]
theorem data_take (s : ByteArray) (n : Nat) : (s.extract 0 n).data.toList = s.data.toList.take n := by
  rw [ByteArray.data_extract, Array.toList_extract, List.extract_eq_drop_take', List.drop_zero]
/-- what is read as a value has this very string -/
theorem valR_sound (s : ByteArray) (h : (valR s).2.2.2 ≠ 0) : ∃ m : Nat, (valR s).2.2.2 = (m : Int) ∧ 0 < m ∧ m ≤ s.size ∧ okV (valR s).1 (valR s).2.1 (valR s).2.2.1 = true ∧ s.data.toList = writL (valR s).1 (valR s).2.1 (valR s).2.2.1 ++ s.data.toList.drop m := by
  have hv : ∀ n, n ≤ s.size → (valN s n).2.2.2 ≠ 0 → ∃ m : Nat, (valN s n).2.2.2 = (m : Int) ∧ 0 < m ∧ m ≤ s.size ∧ okV (valN s n).1 (valN s n).2.1 (valN s n).2.2.1 = true ∧ s.data.toList = writL (valN s n).1 (valN s n).2.1 (valN s n).2.2.1 ++ s.data.toList.drop m := fun n hn => by
    unfold valN
    by_cases q : (readC (s.extract 0 n)).2.2.2 = true
    · rw [if_pos q]
      intro h0
      have h1 : (n : Int) ≠ 0 := h0
      obtain ⟨z1, z2⟩ := readC_true (s.extract 0 n) (a := (readC (s.extract 0 n)).1) (b := (readC (s.extract 0 n)).2.1) (c := (readC (s.extract 0 n)).2.2.1) (by rw [← q])
      refine ⟨n, rfl, by omega, hn, z1, ?_⟩
      have z3 : (writ (readC (s.extract 0 n)).1 (readC (s.extract 0 n)).2.1 (readC (s.extract 0 n)).2.2.1).data.toList = s.data.toList.take n := by rw [z2, data_take]
      unfold writ at z3
      rw [ofL_data] at z3
      show s.data.toList = writL (readC (s.extract 0 n)).1 (readC (s.extract 0 n)).2.1 (readC (s.extract 0 n)).2.2.1 ++ _
      rw [z3, List.take_append_drop]
    · rw [if_neg q]
      intro h0
      exact absurd rfl h0
  revert h
  unfold valR
  by_cases h : 0 < s.size ∧ bt s 0 = 39
  · rw [if_pos h]
    cases e : endQ s s.size 1 with
    | none => intro h0; exact absurd rfl h0
    | some n => exact hv n (endQ_le s _ _ _ e).1
  · rw [if_neg h]
    exact hv _ (endW_le s _ _ (Nat.zero_le _))
/-- behind a value: the string ends, or a comma, or a bracket -/
def Stop (r : List UInt8) : Prop := r = [] ∨ ∃ c t, r = c :: t ∧ (c = 44 ∨ c = 41)
theorem endQ_at (s : ByteArray) (rest : List UInt8) (hr : Stop rest) : ∀ (x : List UInt8) (d i : Nat), s.size < i + d → s.data.toList.drop i = dbl x ++ 39 :: rest → endQ s d i = some (i + (dbl x).length + 1)
  | [], d, i, hd, h => by
    obtain ⟨h1, h2, h3⟩ := bt_drop s i 39 rest h
    replace h2 : bt s (i : Int) = 39 := h2
    obtain ⟨d, rfl⟩ : ∃ m, d = m + 1 := ⟨d - 1, by omega⟩
    unfold endQ
    rw [if_pos h1, if_pos h2, if_neg (fun q => by
      rcases hr with rfl | ⟨c, t, rfl, hc⟩
      · have := bt_nil s (i + 1) h3
        omega
      · obtain ⟨_, h4, _⟩ := bt_drop s (i + 1) c t h3
        rw [h4] at q
        rcases hc with rfl | rfl
        · exact absurd q.2 (by decide)
        · exact absurd q.2 (by decide))]
    rfl
  | c :: x, d, i, hd, h => by
    obtain ⟨d, rfl⟩ : ∃ m, d = m + 1 := ⟨d - 1, by
      have h9 : i < s.size := by
        apply Nat.lt_of_not_le
        intro q
        rw [List.drop_eq_nil_of_le (by rw [Array.length_toList]; exact q)] at h
        unfold dbl at h
        split at h <;> simp at h
      omega⟩
    unfold dbl at h ⊢
    by_cases hc : c = 39
    · rw [if_pos hc] at h ⊢
      obtain ⟨h1, h2, h3⟩ := bt_drop s i 39 _ h
      obtain ⟨h4, h5, h6⟩ := bt_drop s (i + 1) 39 _ h3
      replace h2 : bt s (i : Int) = 39 := h2
      replace h5 : bt s ((i + 1 : Nat) : Int) = 39 := h5
      unfold endQ
      rw [if_pos h1, if_pos h2, if_pos ⟨h4, h5⟩, endQ_at s rest hr x d (i + 2) (by omega) h6]
      simp only [List.length_cons]
      congr 1
      omega
    · rw [if_neg hc] at h ⊢
      obtain ⟨h1, h2, h3⟩ := bt_drop s i c _ h
      unfold endQ
      rw [if_pos h1, if_neg (fun q => hc (by
        rw [h2] at q
        exact UInt8.toNat_inj.1 (by
          have : (39 : UInt8).toNat = 39 := rfl
          omega))), endQ_at s rest hr x d (i + 1) (by omega) h3]
      simp only [List.length_cons]
      congr 1
      omega
theorem endW_at (s : ByteArray) (rest : List UInt8) (hr : Stop rest) : ∀ (x : List UInt8) (d i : Nat), (∀ c ∈ x, wordB (c.toNat : Int) = true) → s.size ≤ i + d → i ≤ s.size → s.data.toList.drop i = x ++ rest → endW s d i = i + x.length
  | [], d, i, _, hd, hi, h => by
    rcases hr with rfl | ⟨c, t, rfl, hc⟩
    · have h1 := bt_nil s i h
      cases d with
      | zero => rfl
      | succ d => unfold endW; rw [if_neg (by omega)]; rfl
    · obtain ⟨h1, h2, _⟩ := bt_drop s i c t h
      obtain ⟨d, rfl⟩ : ∃ m, d = m + 1 := ⟨d - 1, by omega⟩
      unfold endW
      rw [if_pos h1, h2, if_neg (by rcases hc with rfl | rfl <;> decide)]
      rfl
  | c :: x, d, i, hx, hd, hi, h => by
    obtain ⟨h1, h2, h3⟩ := bt_drop s i c _ h
    obtain ⟨d, rfl⟩ : ∃ m, d = m + 1 := ⟨d - 1, by omega⟩
    unfold endW
    rw [if_pos h1, h2, if_pos (hx c List.mem_cons_self), endW_at s rest hr x d (i + 1) (fun y hy => hx y (List.mem_cons_of_mem _ hy)) (by omega) (by omega) h3, List.length_cons]
    omega
theorem wrL_words {v : V} (h : OkV v) : (∃ t, wrL v = 39 :: (dbl t ++ [39])) ∨ ((∀ c ∈ wrL v, wordB (c.toNat : Int) = true) ∧ ∃ c r, wrL v = c :: r ∧ c ≠ 39) := by
  rcases wrL_cases h with h1 | ⟨_, h2⟩
  · exact .inl h1
  · refine .inr ⟨?_, h2⟩
    obtain ⟨c0, r0, e0, hc0⟩ := h2
    unfold wrL writL at e0 ⊢
    rcases okV_cases h with ⟨e, _, _⟩ | ⟨e, _, _⟩ | ⟨e, _, _⟩ | ⟨e, _, _, _⟩
    · rw [e, if_neg (by decide), if_neg (by decide), if_neg (by decide)]
      decide
    · rw [e, if_pos rfl]
      intro c hc
      rw [wordB_iff]
      have := itoa_chars v.f1 c hc
      omega
    · rw [e, if_neg (by decide), if_pos rfl]
      by_cases q : v.f1 = 1
      · rw [if_pos q]; decide
      · rw [if_neg q]; decide
    · rw [e, if_neg (by decide), if_neg (by decide), if_pos rfl] at e0
      injection e0 with e1 _
      exact absurd e1.symm hc0
theorem valN_at (s : ByteArray) {v : V} (hv : OkV v) (rest : List UInt8) (h : s.data.toList = wrL v ++ rest) : valN s (wrL v).length = (v.f0, v.f1, v.f2, ((wrL v).length : Int)) := by
  have e : s.extract 0 (wrL v).length = writ v.f0 v.f1 v.f2 := by
    apply ba_ext
    rw [data_take, h]
    unfold writ
    rw [ofL_data]
    exact List.take_left
  unfold valN
  rw [e, readC_writ (a := v.f0) (b := v.f1) (c := v.f2) hv]
  rfl
/-- the string of a value is read -/
theorem valR_at (s : ByteArray) {v : V} (hv : OkV v) (rest : List UInt8) (hr : Stop rest) (h : s.data.toList = wrL v ++ rest) : valR s = (v.f0, v.f1, v.f2, ((wrL v).length : Int)) := by
  have hN := valN_at s hv rest h
  unfold valR
  rcases wrL_words hv with ⟨t, ht⟩ | ⟨hw, c, r, hc, hc39⟩
  · have h0 : s.data.toList.drop 0 = 39 :: (dbl t ++ 39 :: rest) := by rw [List.drop_zero, h, ht]; simp
    obtain ⟨h1, h2, h3⟩ := bt_drop s 0 39 _ h0
    rw [if_pos ⟨h1, h2⟩, endQ_at s rest hr t s.size 1 (by omega) h3]
    dsimp only
    rw [show 1 + (dbl t).length + 1 = (wrL v).length by rw [ht]; simp only [List.length_cons, List.length_append, List.length_nil]; omega]
    exact hN
  · have h0 : s.data.toList.drop 0 = c :: (r ++ rest) := by rw [List.drop_zero, h, hc]; rfl
    obtain ⟨h1, h2, h3⟩ := bt_drop s 0 c _ h0
    rw [if_neg (fun q => hc39 (by
      have h4 : bt s 0 = (c.toNat : Int) := h2
      have h5 := q.2
      rw [h4] at h5
      exact UInt8.toNat_inj.1 (by
        have : (39 : UInt8).toNat = 39 := rfl
        omega))), endW_at s rest hr (wrL v) s.size 0 hw (by omega) (by omega) (by rw [List.drop_zero]; exact h), Nat.zero_add]
    exact hN
theorem join_two (x : List UInt8) (l : List (List UInt8)) (h : l ≠ []) : Lib.join (x :: l) [44, 32] = x ++ 44 :: 32 :: Lib.join l [44, 32] := by
  cases l with
  | nil => exact absurd rfl h
  | cons y l =>
    rw [Lib.join_cons, Lib.join_cons]
    simp [Lib.joinTail]
theorem join_one (x : List UInt8) : Lib.join [x] [44, 32] = x := by
  rw [Lib.join_cons]; simp [Lib.joinTail]
/-- what is read as the values of a row has this very string -/
theorem readL_sound (s : ByteArray) : ∀ (d a : Nat) (acc : List V), a ≤ s.size → (readL s d a acc).2 ≠ 0 → ∃ (l : List V) (m : Nat), readL s d a acc = (acc ++ l, (m : Int)) ∧ l ≠ [] ∧ (∀ v ∈ l, OkV v) ∧ a < m ∧ m ≤ s.size ∧ s.data.toList.drop a = Lib.join (l.map wrL) [44, 32] ++ 41 :: s.data.toList.drop m := by
  intro d
  induction d with
  | zero => intro a acc _ h; exact absurd rfl h
  | succ d ih =>
    intro a acc ha
    unfold readL
    by_cases h0 : (valR (s.extract a s.size)).2.2.2 = 0
    · rw [if_pos h0]
      intro h; exact absurd rfl h
    · rw [if_neg h0]
      obtain ⟨m, h1, h2, h3, h4, h5⟩ := valR_sound (s.extract a s.size) h0
      rw [data_drop] at h5
      rw [ByteArray.size_extract] at h3
      rw [List.drop_drop] at h5
      generalize valR (s.extract a s.size) = p at h0 h1 h4 h5 ⊢
      dsimp only
      have hm : p.2.2.2.toNat = m := by omega
      rw [hm]
      have hw : writL p.1 p.2.1 p.2.2.1 = wrL (⟨p.1, p.2.1, p.2.2.1⟩ : V) := rfl
      rw [hw] at h5
      have hok : OkV (⟨p.1, p.2.1, p.2.2.1⟩ : V) := h4
      generalize (⟨p.1, p.2.1, p.2.2.1⟩ : V) = v at h5 hok ⊢
      by_cases hc : a + m < s.size ∧ bt s ((a + m : Nat) : Int) = 41
      · rw [if_pos hc]
        intro _
        refine ⟨[v], a + m + 1, rfl, by simp, fun u hu => by rw [List.mem_singleton.1 hu]; exact hok, by omega, by omega, ?_⟩
        rw [List.map_cons, List.map_nil, join_one, h5, drop_bt s (a + m) 41 hc.1 hc.2]
      · rw [if_neg hc]
        by_cases hc2 : a + m + 2 ≤ s.size ∧ bt s ((a + m : Nat) : Int) = 44 ∧ bt s ((a + m + 1 : Nat) : Int) = 32
        · rw [if_pos hc2]
          intro h
          obtain ⟨l, z, e1, e2, e3, e4, e5, e6⟩ := ih (a + m + 2) (acc ++ [v]) hc2.1 h
          refine ⟨v :: l, z, by rw [e1, List.append_assoc]; rfl, by simp, fun u hu => ?_, by omega, e5, ?_⟩
          · rcases List.mem_cons.1 hu with rfl | hu
            · exact hok
            · exact e3 u hu
          · rw [List.map_cons, join_two _ _ (by simpa using e2), h5, drop_bt s (a + m) 44 (by omega) hc2.2.1, drop_bt s (a + m + 1) 32 (by omega) hc2.2.2, e6]
            simp
        · rw [if_neg hc2]
          intro h; exact absurd rfl h
theorem readL_at (s : ByteArray) (rest : List UInt8) : ∀ (l : List V) (d a : Nat) (acc : List V), l ≠ [] → (∀ v ∈ l, OkV v) → a ≤ s.size → s.size < a + d → s.data.toList.drop a = Lib.join (l.map wrL) [44, 32] ++ 41 :: rest →
    readL s d a acc = (acc ++ l, ((a + (Lib.join (l.map wrL) [44, 32]).length + 1 : Nat) : Int))
  | [], _, _, _, h, _, _, _, _ => absurd rfl h
  | [v], d, a, acc, _, hok, ha, hd, h => by
    have hv := hok v List.mem_cons_self
    obtain ⟨d, rfl⟩ : ∃ m, d = m + 1 := ⟨d - 1, by omega⟩
    rw [List.map_cons, List.map_nil, join_one] at h ⊢
    have h1 := valR_at (s.extract a s.size) hv (41 :: rest) (.inr ⟨41, rest, rfl, .inr rfl⟩) (by rw [data_drop]; exact h)
    have h2 : s.data.toList.drop (a + (wrL v).length) = 41 :: rest := by rw [← List.drop_drop, h, List.drop_left]
    obtain ⟨h3, h4, _⟩ := bt_drop s _ 41 rest h2
    have hpos : 0 < (wrL v).length := by
      rcases wrL_cases hv with ⟨t, e⟩ | ⟨_, c, r, e, _⟩ <;> rw [e] <;> simp
    unfold readL
    rw [h1]
    dsimp only
    rw [if_neg (by omega), Int.toNat_natCast, if_pos ⟨h3, h4⟩]
  | v :: u :: l, d, a, acc, _, hok, ha, hd, h => by
    have hv := hok v List.mem_cons_self
    obtain ⟨d, rfl⟩ : ∃ m, d = m + 1 := ⟨d - 1, by omega⟩
    rw [List.map_cons, join_two _ _ (by simp)] at h ⊢
    have h0 : s.data.toList.drop a = wrL v ++ (44 :: 32 :: (Lib.join ((u :: l).map wrL) [44, 32] ++ 41 :: rest)) := by rw [h]; simp
    have h1 := valR_at (s.extract a s.size) hv _ (.inr ⟨44, _, rfl, .inl rfl⟩) (by rw [data_drop]; exact h0)
    have h2 : s.data.toList.drop (a + (wrL v).length) = 44 :: 32 :: (Lib.join ((u :: l).map wrL) [44, 32] ++ 41 :: rest) := by rw [← List.drop_drop, h0, List.drop_left]
    obtain ⟨h3, h4, h5⟩ := bt_drop s _ 44 _ h2
    obtain ⟨h6, h7, h8⟩ := bt_drop s _ 32 _ h5
    have hpos : 0 < (wrL v).length := by
      rcases wrL_cases hv with ⟨t, e⟩ | ⟨_, c, r, e, _⟩ <;> rw [e] <;> simp
    unfold readL
    rw [h1]
    dsimp only
    rw [if_neg (by omega), Int.toNat_natCast, if_neg (fun q => by
      have := q.2
      rw [h4] at this
      exact absurd this (by decide)), if_pos ⟨by omega, h4, h7⟩]
    rw [readL_at s rest (u :: l) d (a + (wrL v).length + 2) (acc ++ [v]) (by simp) (fun x hx => hok x (List.mem_cons_of_mem _ hx)) (by omega) (by omega) h8, List.append_assoc]
    simp only [List.length_append, List.length_cons, List.cons_append, List.nil_append, Prod.mk.injEq, true_and]
    congr 1
    omega
/-- the row with which a string begins, and how long it is -/
def rowR (s : ByteArray) : List V × Int := if 2 ≤ s.size ∧ bt s 0 = 40 then (if bt s 1 = 41 then ([], 2) else readL s (s.size + 1) 1 []) else ([], 0)
theorem rowR_sound (s : ByteArray) (h : (rowR s).2 ≠ 0) : ∃ (l : List V) (m : Nat), rowR s = (l, (m : Int)) ∧ (∀ v ∈ l, OkV v) ∧ 0 < m ∧ m ≤ s.size ∧ s.data.toList = rowL l ++ s.data.toList.drop m := by
  revert h
  unfold rowR
  by_cases h0 : 2 ≤ s.size ∧ bt s 0 = 40
  · rw [if_pos h0]
    have e0 : s.data.toList = 40 :: s.data.toList.drop 1 := drop_bt s 0 40 (by omega) h0.2
    by_cases h1 : bt s 1 = 41
    · rw [if_pos h1]
      intro _
      refine ⟨[], 2, rfl, by simp, by omega, h0.1, ?_⟩
      have e1 : s.data.toList.drop 1 = 41 :: s.data.toList.drop 2 := drop_bt s 1 41 (by omega) h1
      rw [e1] at e0
      exact e0
    · rw [if_neg h1]
      intro h
      obtain ⟨l, m, e1, _, e3, e4, e5, e6⟩ := readL_sound s (s.size + 1) 1 [] (by omega) h
      refine ⟨l, m, by rw [e1]; rfl, e3, by omega, e5, ?_⟩
      unfold rowL
      rw [e6] at e0
      rw [List.cons_append, List.append_assoc]
      exact e0
  · rw [if_neg h0]
    intro h; exact absurd rfl h
theorem rowR_at (s : ByteArray) (l : List V) (hl : ∀ v ∈ l, OkV v) (rest : List UInt8) (h : s.data.toList = rowL l ++ rest) : rowR s = (l, ((rowL l).length : Int)) := by
  unfold rowL at h ⊢
  have hz : s.size = s.data.toList.length := Array.length_toList.symm
  have h0 : s.data.toList.drop 0 = 40 :: (Lib.join (l.map wrL) [44, 32] ++ 41 :: rest) := by rw [List.drop_zero, h]; simp
  obtain ⟨h1, h2, h3⟩ := bt_drop s 0 40 _ h0
  have h2' : bt s 0 = 40 := h2
  have hsz : 2 ≤ s.size := by rw [hz, h]; simp; omega
  unfold rowR
  rw [if_pos ⟨hsz, h2'⟩]
  cases l with
  | nil =>
    rw [List.map_nil, Lib.join_nil] at h3
    obtain ⟨_, h4, _⟩ := bt_drop s 1 41 rest h3
    rw [if_pos (show bt s 1 = 41 from h4)]
    rfl
  | cons v l =>
    have hv := hl v List.mem_cons_self
    have h41 : ¬ bt s 1 = 41 := by
      have hx : ∃ c t, wrL v = c :: t ∧ c ≠ 41 := by
        rcases wrL_words hv with ⟨t, e⟩ | ⟨hw, c, r, e, _⟩
        · exact ⟨39, _, e, by decide⟩
        · refine ⟨c, r, e, fun q => ?_⟩
          have := hw c (by rw [e]; exact List.mem_cons_self)
          rw [q] at this
          exact absurd this (by decide)
      obtain ⟨c, t, e, hc⟩ := hx
      have h4 : s.data.toList.drop 1 = c :: (t ++ (Lib.joinTail [44, 32] (l.map wrL) ++ 41 :: rest)) := by
        have h5 : s.data.toList.drop 1 = Lib.join ((v :: l).map wrL) [44, 32] ++ 41 :: rest := h3
        rw [h5, List.map_cons, Lib.join_cons, e]
        simp
      obtain ⟨_, h5, _⟩ := bt_drop s 1 c _ h4
      intro q
      have h6 : bt s 1 = (c.toNat : Int) := h5
      rw [h6] at q
      exact hc (UInt8.toNat_inj.1 (by
        have : (41 : UInt8).toNat = 41 := rfl
        omega))
    rw [if_neg h41, readL_at s rest (v :: l) (s.size + 1) 1 [] (by simp) hl (by omega) (by omega) h3]
    simp only [List.nil_append, List.length_cons, List.length_append, Prod.mk.injEq, true_and, List.length_nil]
    congr 1
    omega
/-- the rows of a string -/
def readP : Nat → ByteArray → List (List V) → Option (List (List V))
  | 0, _, _ => none
  | d + 1, s, out => if s.size = 0 then some out else if (rowR s).2 = 0 then none else
      if (rowR s).2.toNat < s.size ∧ bt s (((rowR s).2.toNat : Nat) : Int) = 10 then readP d (s.extract ((rowR s).2.toNat + 1) s.size) (out ++ [(rowR s).1]) else none
theorem readP_sound : ∀ (d : Nat) (s : ByteArray) (out L : List (List V)), readP d s out = some L → ∃ l : List (List V), L = out ++ l ∧ (∀ r ∈ l, ∀ v ∈ r, OkV v) ∧ strR l = s.data.toList
  | 0, _, _, _, h => by cases h
  | d + 1, s, out, L, h => by
    unfold readP at h
    by_cases h0 : s.size = 0
    · rw [if_pos h0] at h
      refine ⟨[], by rw [List.append_nil]; exact (Option.some.inj h).symm, by simp, ?_⟩
      have : s.data.toList.length = 0 := by rw [Array.length_toList]; exact h0
      rw [List.eq_nil_of_length_eq_zero this]
      rfl
    · rw [if_neg h0] at h
      by_cases h1 : (rowR s).2 = 0
      · rw [if_pos h1] at h; cases h
      · rw [if_neg h1] at h
        obtain ⟨r, m, e1, e2, e3, e4, e5⟩ := rowR_sound s h1
        rw [e1] at h
        dsimp only at h
        rw [Int.toNat_natCast] at h
        by_cases h2 : m < s.size ∧ bt s (m : Int) = 10
        · rw [if_pos h2] at h
          obtain ⟨l, f1, f2, f3⟩ := readP_sound d _ _ _ h
          refine ⟨r :: l, by rw [f1, List.append_assoc]; rfl, fun x hx => ?_, ?_⟩
          · rcases List.mem_cons.1 hx with rfl | hx
            · exact e2
            · exact f2 x hx
          · rw [data_drop] at f3
            have e6 := drop_bt s m 10 h2.1 h2.2
            rw [e6, ← f3] at e5
            rw [e5]
            simp [strR]
        · rw [if_neg h2] at h; cases h
theorem readP_at : ∀ (l : List (List V)) (d : Nat) (s : ByteArray) (out : List (List V)), (∀ r ∈ l, ∀ v ∈ r, OkV v) → s.data.toList = strR l → s.size < d → readP d s out = some (out ++ l)
  | [], d, s, out, _, h, hd => by
    obtain ⟨d, rfl⟩ : ∃ m, d = m + 1 := ⟨d - 1, by omega⟩
    have h0 : s.size = 0 := by
      have : s.data.toList.length = 0 := by rw [h]; rfl
      rw [Array.length_toList] at this
      exact this
    unfold readP
    rw [if_pos h0, List.append_nil]
  | r :: l, d, s, out, hok, h, hd => by
    obtain ⟨d, rfl⟩ : ∃ m, d = m + 1 := ⟨d - 1, by omega⟩
    have h' : s.data.toList = rowL r ++ 10 :: strR l := by rw [h]; simp [strR]
    have h1 := rowR_at s r (hok r List.mem_cons_self) _ h'
    have h2 : s.data.toList.drop (rowL r).length = 10 :: strR l := by rw [h', List.drop_left]
    obtain ⟨h3, h4, h5⟩ := bt_drop s _ 10 _ h2
    have hpos : 0 < (rowL r).length := by unfold rowL; simp
    unfold readP
    rw [h1]
    dsimp only
    rw [if_neg (by omega), if_neg (by omega), Int.toNat_natCast, if_pos ⟨h3, h4⟩]
    rw [readP_at l d _ (out ++ [r]) (fun x hx => hok x (List.mem_cons_of_mem _ hx)) (by rw [data_drop]; exact h5) (by rw [ByteArray.size_extract]; omega), List.append_assoc]
    rfl
end Go.Proofs.YtmhobbdedmjmnaaGreatDoor
end
section
/- One row at the beginning of a string: the definition's reading; no program in sight. -/
end
section
/- Each function reached is shown to return what the plain function beside it computes, wherever that is defined (written by a program of ours for this seat). -/
namespace Go.Proofs.YtmhobbdedmjmnaaGreatDoor.Q
open Go.RowKit Go.Proofs.YtmhobbdedmjmnaaGreatDoorW.PrintWords Go.Proofs.YtmhobbdedmjmnaaGreatDoorW.PrintLast Go.Proofs.YtmhobbdedmjmnaaGreatDoorW.PrintMore
attribute [local go_sem] max2_int min2_int max_two min_two max_three min_three max_four min_four   -- for this text's walks alone
set_option linter.unusedVariables false
set_option linter.unusedSimpArgs false
end Go.Proofs.YtmhobbdedmjmnaaGreatDoor.Q
end
section
/- Rows at the beginning of a string: the program and the definition read them alike; no program in sight. -/
namespace Go.Proofs.YtmhobbdedmjmnaaGreatDoor
open Go.RowKit Go.Proofs.YtmhobbdedmjmnaaGreatDoor.Q Go.Proofs.YtmhobbdedmjmnaaGreatDoorW.PrintWords Go.Proofs.YtmhobbdedmjmnaaGreatDoorW.PrintLast Go.Proofs.YtmhobbdedmjmnaaGreatDoorW.PrintMore
theorem readL_empty (s : ByteArray) (d a : Nat) (acc : List V) (h : s.size ≤ a) : readL s d a acc = ([], 0) := by
  cases d with
  | zero => rfl
  | succ d =>
    have h3 := valR_le (s.extract a s.size)
    rw [ByteArray.size_extract] at h3
    unfold readL
    rw [if_pos (by omega)]
theorem rowR_no (s : ByteArray) (h : ¬ (2 ≤ s.size ∧ bt s 0 = 40)) : rowR s = ([], 0) := by unfold rowR; exact if_neg h
theorem rowR_two (s : ByteArray) (h : 2 ≤ s.size) (h0 : bt s 0 = 40) (h1 : bt s 1 = 41) : rowR s = ([], 2) := by unfold rowR; rw [if_pos ⟨h, h0⟩]; exact if_pos h1
theorem rowR_in (s : ByteArray) (h : 2 ≤ s.size) (h0 : bt s 0 = 40) (h1 : ¬ bt s 1 = 41) : rowR s = readL s (s.size + 1) 1 [] := by unfold rowR; rw [if_pos ⟨h, h0⟩]; exact if_neg h1
theorem rowsRow (s : ByteArray) (hs : s.size ≤ 20000) (k : Nat) (hk : 65000 < k) : rows_Row.f k s = some (rowR s) := by
  unfold rows_Row.f
  rw [hasPrefix1, Option.bind_some]
  by_cases h : 0 < s.size ∧ bt s 0 = 40
  · rw [if_pos (by rw [decide_eq_true h.1, Bool.true_and]; exact decide_eq_true h.2), if_pos (by omega), hasPrefix1, Option.bind_some]
    by_cases h2 : 2 ≤ s.size
    · have e1 : bt (s.extract 1 s.size) 0 = bt s 1 := bt_extract s 1 s.size 0 (by omega) (Nat.le_refl _)
      have e2 : 0 < (s.extract 1 s.size).size := by rw [ByteArray.size_extract]; omega
      rw [e1, decide_eq_true e2, Bool.true_and]
      by_cases h3 : bt s 1 = 41
      · rw [rowR_two s h2 h.2 h3]
        exact if_pos (decide_eq_true h3)
      · rw [rowR_in s h2 h.2 h3, show (((41 : UInt8).toNat : Nat) : Int) = 41 from rfl, if_neg (fun q => h3 (of_decide_eq_true q))]
        exact rows_l0 s hs (s.size + 1) 1 k [] (by omega) (by omega) (by simp) (by omega)
    · have e2 : ¬ 0 < (s.extract 1 s.size).size := by rw [ByteArray.size_extract]; omega
      rw [rowR_no s (fun q => h2 q.1), decide_eq_false e2, Bool.false_and, if_neg (by decide)]
      have h5 := rows_l0 s hs (s.size + 1) 1 k [] (by omega) (by omega) (by simp) (by omega)
      rw [readL_empty s _ _ _ (by omega)] at h5
      exact h5
  · rw [rowR_no s (fun q => h ⟨by omega, q.2⟩)]
    exact if_neg (fun e => h (by rw [Bool.and_eq_true, decide_eq_true_eq, decide_eq_true_eq] at e; exact e))
theorem rowR_le (s : ByteArray) : 0 ≤ (rowR s).2 ∧ (rowR s).2 ≤ (s.size : Int) := by
  by_cases h : (rowR s).2 = 0
  · omega
  · obtain ⟨l, m, e1, _, e3, e4, _⟩ := rowR_sound s h
    rw [e1]
    dsimp only
    omega
/-- what the program answers of the rows that it has read -/
def endP : Option (List (List V)) → List (List V) × Int
  | some L => if smallE [L] = 0 then (L, 0) else ([], 20)
  | none => ([], 20)
theorem rowsParse_l0 : ∀ (d : Nat) (s : ByteArray) (k : Nat) (out : List (List V)), s.size < d → s.size ≤ 20000 → out.length + s.size ≤ 100000 → 65001 + d < k →
    rows_Parse.l0 k s out = some (endP (readP d s out))
  | 0, _, _, _, h, _, _, _ => by omega
  | d + 1, s, k, out, hd, hs, ho, hk => by
    obtain ⟨k, rfl⟩ : ∃ m, k = m + 1 := ⟨k - 1, by omega⟩
    unfold readP
    rw [rows_Parse.l0]
    by_cases h0 : s.size = 0
    · rw [if_pos h0, if_pos h0, if_pos (by omega)]
      show _ = some (if smallE [out] = 0 then (out, 0) else ([], 20))
      split <;> rfl
    · rw [if_neg h0, if_neg h0, rowsRow s hs k (by omega), Option.bind_some]
      have hr := rowR_le s
      generalize rowR s = p at hr ⊢
      by_cases h1 : p.2 = 0
      · rw [if_pos h1, if_pos h1]; rfl
      · obtain ⟨n, hn⟩ : ∃ n : Nat, p.2 = (n : Int) := ⟨p.2.toNat, by omega⟩
        rw [if_neg h1, if_neg h1, hn, Int.toNat_natCast]
        rw [hn] at hr h1
        have hn0 : 0 < n := by omega
        have hns : n ≤ s.size := by omega
        clear hr h1
        rw [if_pos ⟨by omega, by omega⟩, hasPrefix1, Option.bind_some]
        obtain ⟨m, hm⟩ : ∃ m, s.size = n + m := ⟨s.size - n, by omega⟩
        have hz0 : (s.extract n s.size).size = m := by rw [ByteArray.size_extract, hm]; omega
        by_cases h2 : n < s.size
        · have e1 : bt (s.extract n s.size) 0 = bt s (n : Int) := bt_extract s n s.size 0 (by omega) (Nat.le_refl _)
          have e2 : 0 < (s.extract n s.size).size := by omega
          rw [e1, decide_eq_true e2, Bool.true_and, show (((10 : UInt8).toNat : Nat) : Int) = 10 from rfl]
          by_cases h3 : bt s (n : Int) = 10
          · have hc : n < s.size ∧ bt s (n : Int) = 10 := ⟨h2, h3⟩
            rw [if_pos (decide_eq_true h3), if_pos hc, if_pos ⟨by omega, by omega⟩, show ((n : Int) + 1).toNat = n + 1 by omega]
            have hz : (s.extract (n + 1) s.size).size + (n + 1) = s.size := by rw [ByteArray.size_extract]; omega
            exact rowsParse_l0 d _ k _ (by omega) (by omega) (by rw [List.length_append, List.length_singleton]; omega) (by omega)
          · rw [if_neg (fun q => h3 (of_decide_eq_true q)), if_neg (fun q => h3 q.2)]; rfl
        · have e2 : ¬ 0 < (s.extract n s.size).size := by omega
          rw [decide_eq_false e2, Bool.false_and, if_neg (by decide), if_neg (fun q => h2 q.1)]; rfl
theorem rowsParse (s : ByteArray) (hs : s.size ≤ 20000) : rows_Parse.f s = some (endP (readP (s.size + 1) s [])) := by
  unfold rows_Parse.f
  rw [if_neg (by omega)]
  exact rowsParse_l0 (s.size + 1) s _ [] (by omega) hs (by rw [List.length_nil]; omega) (by omega)
/-- rows that are read are right ones, if they are not too many or too long -/
theorem smallE_read {L : List (List V)} (hok : ∀ r ∈ L, ∀ v ∈ r, OkV v) : smallE [L] = if largeR L = true then 2 else 0 := by
  have hw : wrongR L = false := by
    unfold wrongR
    rw [List.any_eq_false]
    intro r hr
    rw [Bool.not_eq_true, List.any_eq_false]
    intro v hv
    have h2 := hok r hr v hv
    unfold OkV okV at h2
    rw [Bool.and_eq_true] at h2
    unfold isV
    rw [h2.1]
    decide
  unfold smallE
  simp only [List.any_cons, List.any_nil, Bool.or_false, hw]
  rfl
theorem rowsOk_read {L : List (List V)} (hok : ∀ r ∈ L, ∀ v ∈ r, OkV v) (hl : largeR L = false) : RowsOk 100000 L ∧ okRR L = true := by
  unfold largeR at hl
  rw [Bool.or_eq_false_iff, List.any_eq_false] at hl
  have h1 := of_decide_eq_false hl.1
  have h2 : ∀ r ∈ L, r.length ≤ 16 := fun r hr => by
    have := hl.2 r hr
    rw [decide_eq_true_eq] at this
    omega
  refine ⟨⟨by omega, fun r hr => ⟨by have := h2 r hr; omega, fun v hv => ?_⟩⟩, okRR_mk (by omega) fun r hr => okRow_mk (by have := h2 r hr; omega) (hok r hr)⟩
  have h3 := hok r hr v hv
  refine ⟨?_, ?_⟩
  · rcases okV_cases h3 with ⟨_, _, e⟩ | ⟨_, _, e⟩ | ⟨_, _, e⟩ | ⟨_, _, e, _⟩
    · rw [e]; decide
    · rw [e]; decide
    · rw [e]; decide
    · omega
  · unfold OkV okV at h3
    rw [Bool.and_eq_true] at h3
    exact h3.2
end Go.Proofs.YtmhobbdedmjmnaaGreatDoor
end
section
/- Each function reached is shown to return what the plain function beside it computes, wherever that is defined (written by a program of ours for this seat). -/
namespace Go.Proofs.YtmhobbdedmjmnaaGreatDoor.Q
open Go.RowKit Go.Proofs.YtmhobbdedmjmnaaGreatDoorW.PrintWords Go.Proofs.YtmhobbdedmjmnaaGreatDoorW.PrintLast Go.Proofs.YtmhobbdedmjmnaaGreatDoorW.PrintMore
attribute [local go_sem] max2_int min2_int max_two min_two max_three min_three max_four min_four   -- for this text's walks alone
set_option linter.unusedVariables false
set_option linter.unusedSimpArgs false
mutual
def tacticianref01_TameAs.j0 : Nat → Bool → Int → Int → ByteArray → Int → Bool → Option (Int × Int × ByteArray)
  | 0, _, _, _, _, _, _ => none
  | k + 1, x20, x531000, x531001, x531002, x532000, x532001 => if x20 = true then ((tacticianref01_Null.f).bind fun bt533 => (some (bt533.1, bt533.2.1, bt533.2.2))) else (if x532000 = 2 then ((tacticianref01_Bool.f ((Int.tmod x531001 2) != 0)).bind fun bt536 => (some (bt536.1, bt536.2.1, bt536.2.2))) else (if x532000 = 3 then (tacticianref01_TameAs.l0 k (⟨#[]⟩ : ByteArray) 0 x531000 x531001 x531002) else (if (Int.tmod (IntKind.u64.wrap (x531001)) 16) = 15 then ((tacticianref01_Int.f x531001).bind fun bt545 => (some (bt545.1, bt545.2.1, bt545.2.2))) else ((tacticianref01_Int.f (wrap64 ((wrap64 (Int.tmod (IntKind.u64.wrap (x531001)) 7)) - 2))).bind fun bt548 => (some (bt548.1, bt548.2.1, bt548.2.2))))))
def tacticianref01_TameAs.l0 : Nat → ByteArray → Int → Int → Int → ByteArray → Option (Int × Int × ByteArray)
  | 0, _, _, _, _, _ => none
  | k + 1, x5, x6, x531000, x531001, x531002 => if x6 < (x531002.size : Int) then (if x6 < 3 then (if 0 ≤ x6 then (if 0 ≤ (Int.tmod (bt x531002 x6) 3) then (if (Int.tmod (bt x531002 x6) 3) ≤ (((Int.tmod (bt x531002 x6) 3) + 1) % 256) then (if (((Int.tmod (bt x531002 x6) 3) + 1) % 256) ≤ 3 then (if x5.size + ((⟨#[97, 98, 39]⟩ : ByteArray).extract ((Int.tmod (bt x531002 x6) 3) : Int).toNat ((((Int.tmod (bt x531002 x6) 3) + 1) % 256) : Int).toNat).size ≤ 9223372036854775807 then (tacticianref01_TameAs.l0 k (x5 ++ ((⟨#[97, 98, 39]⟩ : ByteArray).extract ((Int.tmod (bt x531002 x6) 3) : Int).toNat ((((Int.tmod (bt x531002 x6) 3) + 1) % 256) : Int).toNat)) (wrap64 (x6 + 1)) x531000 x531001 x531002) else (none)) else (none)) else (none)) else (none)) else (none)) else ((tacticianref01_Text.f x5).bind fun bt539 => (some (bt539.1, bt539.2.1, bt539.2.2)))) else ((tacticianref01_Text.f x5).bind fun bt542 => (some (bt542.1, bt542.2.1, bt542.2.2)))
end
def tacticianref01_TameAs.f (k : Nat) (a0_0 : Int) (a0_1 : Int) (a0_2 : ByteArray) (a1_0 : Int) (a1_1 : Bool) : Option (Int × Int × ByteArray) := if a1_1 = true then (if a0_0 = 0 then (tacticianref01_TameAs.j0 k true a0_0 a0_1 a0_2 a1_0 a1_1) else (tacticianref01_TameAs.j0 k ((Int.tmod (IntKind.u64.wrap (a0_1)) 5) == 4) a0_0 a0_1 a0_2 a1_0 a1_1)) else (tacticianref01_TameAs.j0 k false a0_0 a0_1 a0_2 a1_0 a1_1)
set_option maxHeartbeats 8000000 in
set_option maxRecDepth 100000 in
theorem tacticianref01_TameAs.calls (k : Nat) (a0_0 : Int) (a0_1 : Int) (a0_2 : ByteArray) (a1_0 : Int) (a1_1 : Bool) (r1 : Int) (r2 : Int) (r3 : ByteArray) (w : World) (h : tacticianref01_TameAs.f k a0_0 a0_1 a0_2 a1_0 a1_1 = some (r1, r2, r3)) :
  Calls Tryz.prog 112 #[.agg #[.int .i64 a0_0, .int .i64 a0_1, .string a0_2], .agg #[.int .i64 a1_0, .bool a1_1]] w fun e w' => e = .returned (.agg #[.int .i64 r1, .int .i64 r2, .string r3]) ∧ Below w.heap.size w w' := by
 have hu61 := Tryz.underlying61
 have hu88 := Tryz.underlying88
 have HB := Aside0.mk (Below.refl w.heap.size w)
 have H : (if a1_1 = true then (if a0_0 = 0 then (tacticianref01_TameAs.j0 k true a0_0 a0_1 a0_2 a1_0 a1_1) else (tacticianref01_TameAs.j0 k ((Int.tmod (IntKind.u64.wrap (a0_1)) 5) == 4) a0_0 a0_1 a0_2 a1_0 a1_1)) else (tacticianref01_TameAs.j0 k false a0_0 a0_1 a0_2 a1_0 a1_1)) = some (r1, r2, r3) := h
 clear h
 have HC3 := Aside0.mk H
 clear H
 go_enter Tryz.func112, Tryz.ntmps112
 go_upto_region 1 with (first | ((with_reducible refine gate_dst (N := 2) rfl ?_); refine box_event ?hg (N := 2) ?hd (cs := #[.int .i64 a0_0, .int .i64 a0_1, .string a0_2]) (t := 61) ?hr ?_; (case hd => rfl); (case hg => rfl); (case hr => first | (go_simp; done) | (go_simp; rfl)); intro gb530 hg w4 hbox hb; have n0_ := Aside0.mk (below_step (by repeat (first | (with_reducible first | exact HB.out | apply yA | apply yN | apply yD) | exact HB.out)) hb); have n1_ := Aside0.mk (hbox); have n2_ := Aside0.mk ((by rw [hg]; exact (below_size (by repeat (first | (with_reducible first | exact HB.out | apply yA | apply yN | apply yD) | exact HB.out))) : w.heap.size ≤ gb530)); have n3_ := Aside0.mk ((by rw [hg]; exact (below_size (by repeat (first | (with_reducible first | exact HB.out | apply yA | apply yN | apply yD) | exact HB.out))) : w.heap.size ≤ gb530)); clear HB; have HB := n0_; have BK530 := n1_; have GW530 := n2_; have GE530 := n3_; clear n0_ n1_ n2_ n3_; clear hb hbox hg) | ((with_reducible refine gate_dst (N := 3) rfl ?_); refine box_event ?hg (N := 3) ?hd (cs := #[.int .i64 a1_0, .bool a1_1]) (t := 88) ?hr ?_; (case hd => rfl); (case hg => rfl); (case hr => first | (go_simp; done) | (go_simp; rfl)); intro gb531 hg w5 hbox hb; have n0_ := Aside0.mk (blk_below (g := gb530) (o := .cells #[.int .i64 a0_0, .int .i64 a0_1, .string a0_2] 61 (0, 0)) (by (with_reducible repeat (first | refine zN ?_ _ | refine zD ?_ | refine zA ?_ _)); exact BK530.out) hb); have n1_ := Aside0.mk (below_step (by repeat (first | (with_reducible first | exact HB.out | apply yA | apply yN | apply yD | refine below_set ?_ GE530.out) | exact HB.out)) hb); have n2_ := Aside0.mk (hbox); have n3_ := Aside0.mk ((by rw [hg]; exact (below_size (by repeat (first | (with_reducible first | exact HB.out | apply yA | apply yN | apply yD | refine below_set ?_ GE530.out) | exact HB.out))) : w.heap.size ≤ gb531)); have n4_ := Aside0.mk ((by rw [hg]; exact (below_size (by repeat (first | (with_reducible first | exact HB.out | apply yA | apply yN | apply yD | refine below_set ?_ GE530.out) | exact HB.out))) : w.heap.size ≤ gb531)); have n5_ := Aside0.mk ((by rw [hg]; exact Nat.ne_of_lt (blk_lt (g := gb530) (o := .cells #[.int .i64 a0_0, .int .i64 a0_1, .string a0_2] 61 (0, 0)) (by (with_reducible repeat (first | refine zN ?_ _ | refine zD ?_ | refine zA ?_ _)); exact BK530.out)) : gb530 ≠ gb531)); have n6_ := Aside0.mk ((by rw [hg]; exact Nat.ne_of_gt (blk_lt (g := gb530) (o := .cells #[.int .i64 a0_0, .int .i64 a0_1, .string a0_2] 61 (0, 0)) (by (with_reducible repeat (first | refine zN ?_ _ | refine zD ?_ | refine zA ?_ _)); exact BK530.out)) : gb531 ≠ gb530)); clear BK530; clear HB; have BK530 := n0_; have HB := n1_; have BK531 := n2_; have GW531 := n3_; have GE531 := n4_; have NB530_531 := n5_; have NB531_530 := n6_; clear n0_ n1_ n2_ n3_ n4_ n5_ n6_; clear hb hbox hg) | ((with_reducible refine gate_dst (N := 4) rfl ?_); refine box_event ?hg (N := 4) ?hd (cs := #[.int .i64 0, .int .i64 0, .string (⟨#[]⟩ : ByteArray)]) (t := 61) ?hr ?_; (case hd => rfl); (case hg => rfl); (case hr => first | (go_simp; done) | (go_simp; rfl)); intro gb532 hg w6 hbox hb; have n0_ := Aside0.mk (blk_below (g := gb530) (o := .cells #[.int .i64 a0_0, .int .i64 a0_1, .string a0_2] 61 (0, 0)) (by (with_reducible repeat (first | refine zN ?_ _ | refine zD ?_ | refine zA ?_ _)); exact BK530.out) hb); have n1_ := Aside0.mk (blk_below (g := gb531) (o := .cells #[.int .i64 a1_0, .bool a1_1] 88 (0, 0)) (by (with_reducible repeat (first | refine zN ?_ _ | refine zD ?_ | refine zA ?_ _)); exact BK531.out) hb); have n2_ := Aside0.mk (below_step (by repeat (first | (with_reducible first | exact HB.out | apply yA | apply yN | apply yD | refine below_set ?_ GE530.out | refine below_set ?_ GE531.out) | exact HB.out)) hb); have n3_ := Aside0.mk (hbox); have n4_ := Aside0.mk ((by rw [hg]; exact (below_size (by repeat (first | (with_reducible first | exact HB.out | apply yA | apply yN | apply yD | refine below_set ?_ GE530.out | refine below_set ?_ GE531.out) | exact HB.out))) : w.heap.size ≤ gb532)); have n5_ := Aside0.mk ((by rw [hg]; exact (below_size (by repeat (first | (with_reducible first | exact HB.out | apply yA | apply yN | apply yD | refine below_set ?_ GE530.out | refine below_set ?_ GE531.out) | exact HB.out))) : w.heap.size ≤ gb532)); have n6_ := Aside0.mk ((by rw [hg]; exact Nat.ne_of_lt (blk_lt (g := gb530) (o := .cells #[.int .i64 a0_0, .int .i64 a0_1, .string a0_2] 61 (0, 0)) (by (with_reducible repeat (first | refine zN ?_ _ | refine zD ?_ | refine zA ?_ _)); exact BK530.out)) : gb530 ≠ gb532)); have n7_ := Aside0.mk ((by rw [hg]; exact Nat.ne_of_gt (blk_lt (g := gb530) (o := .cells #[.int .i64 a0_0, .int .i64 a0_1, .string a0_2] 61 (0, 0)) (by (with_reducible repeat (first | refine zN ?_ _ | refine zD ?_ | refine zA ?_ _)); exact BK530.out)) : gb532 ≠ gb530)); have n8_ := Aside0.mk ((by rw [hg]; exact Nat.ne_of_lt (blk_lt (g := gb531) (o := .cells #[.int .i64 a1_0, .bool a1_1] 88 (0, 0)) (by (with_reducible repeat (first | refine zN ?_ _ | refine zD ?_ | refine zA ?_ _)); exact BK531.out)) : gb531 ≠ gb532)); have n9_ := Aside0.mk ((by rw [hg]; exact Nat.ne_of_gt (blk_lt (g := gb531) (o := .cells #[.int .i64 a1_0, .bool a1_1] 88 (0, 0)) (by (with_reducible repeat (first | refine zN ?_ _ | refine zD ?_ | refine zA ?_ _)); exact BK531.out)) : gb532 ≠ gb531)); clear BK530; clear BK531; clear HB; have BK530 := n0_; have BK531 := n1_; have HB := n2_; have BK532 := n3_; have GW532 := n4_; have GE532 := n5_; have NB530_532 := n6_; have NB532_530 := n7_; have NB531_532 := n8_; have NB532_531 := n9_; clear n0_ n1_ n2_ n3_ n4_ n5_ n6_ n7_ n8_ n9_; clear hb hbox hg))
 repeat (go_quiet (first | ((with_reducible refine gate_dst (N := 2) rfl ?_); refine box_event ?hg (N := 2) ?hd (cs := #[.int .i64 a0_0, .int .i64 a0_1, .string a0_2]) (t := 61) ?hr ?_; (case hd => rfl); (case hg => rfl); (case hr => first | (go_simp; done) | (go_simp; rfl)); intro gb530 hg w4 hbox hb; have n0_ := Aside0.mk (below_step (by repeat (first | (with_reducible first | exact HB.out | apply yA | apply yN | apply yD) | exact HB.out)) hb); have n1_ := Aside0.mk (hbox); have n2_ := Aside0.mk ((by rw [hg]; exact (below_size (by repeat (first | (with_reducible first | exact HB.out | apply yA | apply yN | apply yD) | exact HB.out))) : w.heap.size ≤ gb530)); have n3_ := Aside0.mk ((by rw [hg]; exact (below_size (by repeat (first | (with_reducible first | exact HB.out | apply yA | apply yN | apply yD) | exact HB.out))) : w.heap.size ≤ gb530)); clear HB; have HB := n0_; have BK530 := n1_; have GW530 := n2_; have GE530 := n3_; clear n0_ n1_ n2_ n3_; clear hb hbox hg) | ((with_reducible refine gate_dst (N := 3) rfl ?_); refine box_event ?hg (N := 3) ?hd (cs := #[.int .i64 a1_0, .bool a1_1]) (t := 88) ?hr ?_; (case hd => rfl); (case hg => rfl); (case hr => first | (go_simp; done) | (go_simp; rfl)); intro gb531 hg w5 hbox hb; have n0_ := Aside0.mk (blk_below (g := gb530) (o := .cells #[.int .i64 a0_0, .int .i64 a0_1, .string a0_2] 61 (0, 0)) (by (with_reducible repeat (first | refine zN ?_ _ | refine zD ?_ | refine zA ?_ _)); exact BK530.out) hb); have n1_ := Aside0.mk (below_step (by repeat (first | (with_reducible first | exact HB.out | apply yA | apply yN | apply yD | refine below_set ?_ GE530.out) | exact HB.out)) hb); have n2_ := Aside0.mk (hbox); have n3_ := Aside0.mk ((by rw [hg]; exact (below_size (by repeat (first | (with_reducible first | exact HB.out | apply yA | apply yN | apply yD | refine below_set ?_ GE530.out) | exact HB.out))) : w.heap.size ≤ gb531)); have n4_ := Aside0.mk ((by rw [hg]; exact (below_size (by repeat (first | (with_reducible first | exact HB.out | apply yA | apply yN | apply yD | refine below_set ?_ GE530.out) | exact HB.out))) : w.heap.size ≤ gb531)); have n5_ := Aside0.mk ((by rw [hg]; exact Nat.ne_of_lt (blk_lt (g := gb530) (o := .cells #[.int .i64 a0_0, .int .i64 a0_1, .string a0_2] 61 (0, 0)) (by (with_reducible repeat (first | refine zN ?_ _ | refine zD ?_ | refine zA ?_ _)); exact BK530.out)) : gb530 ≠ gb531)); have n6_ := Aside0.mk ((by rw [hg]; exact Nat.ne_of_gt (blk_lt (g := gb530) (o := .cells #[.int .i64 a0_0, .int .i64 a0_1, .string a0_2] 61 (0, 0)) (by (with_reducible repeat (first | refine zN ?_ _ | refine zD ?_ | refine zA ?_ _)); exact BK530.out)) : gb531 ≠ gb530)); clear BK530; clear HB; have BK530 := n0_; have HB := n1_; have BK531 := n2_; have GW531 := n3_; have GE531 := n4_; have NB530_531 := n5_; have NB531_530 := n6_; clear n0_ n1_ n2_ n3_ n4_ n5_ n6_; clear hb hbox hg) | ((with_reducible refine gate_dst (N := 4) rfl ?_); refine box_event ?hg (N := 4) ?hd (cs := #[.int .i64 0, .int .i64 0, .string (⟨#[]⟩ : ByteArray)]) (t := 61) ?hr ?_; (case hd => rfl); (case hg => rfl); (case hr => first | (go_simp; done) | (go_simp; rfl)); intro gb532 hg w6 hbox hb; have n0_ := Aside0.mk (blk_below (g := gb530) (o := .cells #[.int .i64 a0_0, .int .i64 a0_1, .string a0_2] 61 (0, 0)) (by (with_reducible repeat (first | refine zN ?_ _ | refine zD ?_ | refine zA ?_ _)); exact BK530.out) hb); have n1_ := Aside0.mk (blk_below (g := gb531) (o := .cells #[.int .i64 a1_0, .bool a1_1] 88 (0, 0)) (by (with_reducible repeat (first | refine zN ?_ _ | refine zD ?_ | refine zA ?_ _)); exact BK531.out) hb); have n2_ := Aside0.mk (below_step (by repeat (first | (with_reducible first | exact HB.out | apply yA | apply yN | apply yD | refine below_set ?_ GE530.out | refine below_set ?_ GE531.out) | exact HB.out)) hb); have n3_ := Aside0.mk (hbox); have n4_ := Aside0.mk ((by rw [hg]; exact (below_size (by repeat (first | (with_reducible first | exact HB.out | apply yA | apply yN | apply yD | refine below_set ?_ GE530.out | refine below_set ?_ GE531.out) | exact HB.out))) : w.heap.size ≤ gb532)); have n5_ := Aside0.mk ((by rw [hg]; exact (below_size (by repeat (first | (with_reducible first | exact HB.out | apply yA | apply yN | apply yD | refine below_set ?_ GE530.out | refine below_set ?_ GE531.out) | exact HB.out))) : w.heap.size ≤ gb532)); have n6_ := Aside0.mk ((by rw [hg]; exact Nat.ne_of_lt (blk_lt (g := gb530) (o := .cells #[.int .i64 a0_0, .int .i64 a0_1, .string a0_2] 61 (0, 0)) (by (with_reducible repeat (first | refine zN ?_ _ | refine zD ?_ | refine zA ?_ _)); exact BK530.out)) : gb530 ≠ gb532)); have n7_ := Aside0.mk ((by rw [hg]; exact Nat.ne_of_gt (blk_lt (g := gb530) (o := .cells #[.int .i64 a0_0, .int .i64 a0_1, .string a0_2] 61 (0, 0)) (by (with_reducible repeat (first | refine zN ?_ _ | refine zD ?_ | refine zA ?_ _)); exact BK530.out)) : gb532 ≠ gb530)); have n8_ := Aside0.mk ((by rw [hg]; exact Nat.ne_of_lt (blk_lt (g := gb531) (o := .cells #[.int .i64 a1_0, .bool a1_1] 88 (0, 0)) (by (with_reducible repeat (first | refine zN ?_ _ | refine zD ?_ | refine zA ?_ _)); exact BK531.out)) : gb531 ≠ gb532)); have n9_ := Aside0.mk ((by rw [hg]; exact Nat.ne_of_gt (blk_lt (g := gb531) (o := .cells #[.int .i64 a1_0, .bool a1_1] 88 (0, 0)) (by (with_reducible repeat (first | refine zN ?_ _ | refine zD ?_ | refine zA ?_ _)); exact BK531.out)) : gb532 ≠ gb531)); clear BK530; clear BK531; clear HB; have BK530 := n0_; have BK531 := n1_; have HB := n2_; have BK532 := n3_; have GW532 := n4_; have GE532 := n5_; have NB530_532 := n6_; have NB532_530 := n7_; have NB531_532 := n8_; have NB532_531 := n9_; clear n0_ n1_ n2_ n3_ n4_ n5_ n6_ n7_ n8_ n9_; clear hb hbox hg)); go_upto_region 1 with (first | ((with_reducible refine gate_dst (N := 2) rfl ?_); refine box_event ?hg (N := 2) ?hd (cs := #[.int .i64 a0_0, .int .i64 a0_1, .string a0_2]) (t := 61) ?hr ?_; (case hd => rfl); (case hg => rfl); (case hr => first | (go_simp; done) | (go_simp; rfl)); intro gb530 hg w4 hbox hb; have n0_ := Aside0.mk (below_step (by repeat (first | (with_reducible first | exact HB.out | apply yA | apply yN | apply yD) | exact HB.out)) hb); have n1_ := Aside0.mk (hbox); have n2_ := Aside0.mk ((by rw [hg]; exact (below_size (by repeat (first | (with_reducible first | exact HB.out | apply yA | apply yN | apply yD) | exact HB.out))) : w.heap.size ≤ gb530)); have n3_ := Aside0.mk ((by rw [hg]; exact (below_size (by repeat (first | (with_reducible first | exact HB.out | apply yA | apply yN | apply yD) | exact HB.out))) : w.heap.size ≤ gb530)); clear HB; have HB := n0_; have BK530 := n1_; have GW530 := n2_; have GE530 := n3_; clear n0_ n1_ n2_ n3_; clear hb hbox hg) | ((with_reducible refine gate_dst (N := 3) rfl ?_); refine box_event ?hg (N := 3) ?hd (cs := #[.int .i64 a1_0, .bool a1_1]) (t := 88) ?hr ?_; (case hd => rfl); (case hg => rfl); (case hr => first | (go_simp; done) | (go_simp; rfl)); intro gb531 hg w5 hbox hb; have n0_ := Aside0.mk (blk_below (g := gb530) (o := .cells #[.int .i64 a0_0, .int .i64 a0_1, .string a0_2] 61 (0, 0)) (by (with_reducible repeat (first | refine zN ?_ _ | refine zD ?_ | refine zA ?_ _)); exact BK530.out) hb); have n1_ := Aside0.mk (below_step (by repeat (first | (with_reducible first | exact HB.out | apply yA | apply yN | apply yD | refine below_set ?_ GE530.out) | exact HB.out)) hb); have n2_ := Aside0.mk (hbox); have n3_ := Aside0.mk ((by rw [hg]; exact (below_size (by repeat (first | (with_reducible first | exact HB.out | apply yA | apply yN | apply yD | refine below_set ?_ GE530.out) | exact HB.out))) : w.heap.size ≤ gb531)); have n4_ := Aside0.mk ((by rw [hg]; exact (below_size (by repeat (first | (with_reducible first | exact HB.out | apply yA | apply yN | apply yD | refine below_set ?_ GE530.out) | exact HB.out))) : w.heap.size ≤ gb531)); have n5_ := Aside0.mk ((by rw [hg]; exact Nat.ne_of_lt (blk_lt (g := gb530) (o := .cells #[.int .i64 a0_0, .int .i64 a0_1, .string a0_2] 61 (0, 0)) (by (with_reducible repeat (first | refine zN ?_ _ | refine zD ?_ | refine zA ?_ _)); exact BK530.out)) : gb530 ≠ gb531)); have n6_ := Aside0.mk ((by rw [hg]; exact Nat.ne_of_gt (blk_lt (g := gb530) (o := .cells #[.int .i64 a0_0, .int .i64 a0_1, .string a0_2] 61 (0, 0)) (by (with_reducible repeat (first | refine zN ?_ _ | refine zD ?_ | refine zA ?_ _)); exact BK530.out)) : gb531 ≠ gb530)); clear BK530; clear HB; have BK530 := n0_; have HB := n1_; have BK531 := n2_; have GW531 := n3_; have GE531 := n4_; have NB530_531 := n5_; have NB531_530 := n6_; clear n0_ n1_ n2_ n3_ n4_ n5_ n6_; clear hb hbox hg) | ((with_reducible refine gate_dst (N := 4) rfl ?_); refine box_event ?hg (N := 4) ?hd (cs := #[.int .i64 0, .int .i64 0, .string (⟨#[]⟩ : ByteArray)]) (t := 61) ?hr ?_; (case hd => rfl); (case hg => rfl); (case hr => first | (go_simp; done) | (go_simp; rfl)); intro gb532 hg w6 hbox hb; have n0_ := Aside0.mk (blk_below (g := gb530) (o := .cells #[.int .i64 a0_0, .int .i64 a0_1, .string a0_2] 61 (0, 0)) (by (with_reducible repeat (first | refine zN ?_ _ | refine zD ?_ | refine zA ?_ _)); exact BK530.out) hb); have n1_ := Aside0.mk (blk_below (g := gb531) (o := .cells #[.int .i64 a1_0, .bool a1_1] 88 (0, 0)) (by (with_reducible repeat (first | refine zN ?_ _ | refine zD ?_ | refine zA ?_ _)); exact BK531.out) hb); have n2_ := Aside0.mk (below_step (by repeat (first | (with_reducible first | exact HB.out | apply yA | apply yN | apply yD | refine below_set ?_ GE530.out | refine below_set ?_ GE531.out) | exact HB.out)) hb); have n3_ := Aside0.mk (hbox); have n4_ := Aside0.mk ((by rw [hg]; exact (below_size (by repeat (first | (with_reducible first | exact HB.out | apply yA | apply yN | apply yD | refine below_set ?_ GE530.out | refine below_set ?_ GE531.out) | exact HB.out))) : w.heap.size ≤ gb532)); have n5_ := Aside0.mk ((by rw [hg]; exact (below_size (by repeat (first | (with_reducible first | exact HB.out | apply yA | apply yN | apply yD | refine below_set ?_ GE530.out | refine below_set ?_ GE531.out) | exact HB.out))) : w.heap.size ≤ gb532)); have n6_ := Aside0.mk ((by rw [hg]; exact Nat.ne_of_lt (blk_lt (g := gb530) (o := .cells #[.int .i64 a0_0, .int .i64 a0_1, .string a0_2] 61 (0, 0)) (by (with_reducible repeat (first | refine zN ?_ _ | refine zD ?_ | refine zA ?_ _)); exact BK530.out)) : gb530 ≠ gb532)); have n7_ := Aside0.mk ((by rw [hg]; exact Nat.ne_of_gt (blk_lt (g := gb530) (o := .cells #[.int .i64 a0_0, .int .i64 a0_1, .string a0_2] 61 (0, 0)) (by (with_reducible repeat (first | refine zN ?_ _ | refine zD ?_ | refine zA ?_ _)); exact BK530.out)) : gb532 ≠ gb530)); have n8_ := Aside0.mk ((by rw [hg]; exact Nat.ne_of_lt (blk_lt (g := gb531) (o := .cells #[.int .i64 a1_0, .bool a1_1] 88 (0, 0)) (by (with_reducible repeat (first | refine zN ?_ _ | refine zD ?_ | refine zA ?_ _)); exact BK531.out)) : gb531 ≠ gb532)); have n9_ := Aside0.mk ((by rw [hg]; exact Nat.ne_of_gt (blk_lt (g := gb531) (o := .cells #[.int .i64 a1_0, .bool a1_1] 88 (0, 0)) (by (with_reducible repeat (first | refine zN ?_ _ | refine zD ?_ | refine zA ?_ _)); exact BK531.out)) : gb532 ≠ gb531)); clear BK530; clear BK531; clear HB; have BK530 := n0_; have BK531 := n1_; have HB := n2_; have BK532 := n3_; have GW532 := n4_; have GE532 := n5_; have NB530_532 := n6_; have NB532_530 := n7_; have NB531_532 := n8_; have NB532_531 := n9_; clear n0_ n1_ n2_ n3_ n4_ n5_ n6_ n7_ n8_ n9_; clear hb hbox hg)))
 (try simp only [Act.put, List.setIfInBounds_toArray, List.set_cons_zero, List.set_cons_succ])
 go_cut [20] (fun v20 wc => ∃ (kq : Nat) (x20_2 : Bool), v20 = .bool x20_2 ∧ Aside0 (tacticianref01_TameAs.j0 kq x20_2 a0_0 a0_1 a0_2 a1_0 a1_1 = some (r1, r2, r3)) ∧ Aside0 (kq ≤ k) ∧ Aside0 (wc.heap[gb530]? = some (.cells #[.int .i64 a0_0, .int .i64 a0_1, .string a0_2] 61 (0, 0))) ∧ Aside0 (wc.heap[gb531]? = some (.cells #[.int .i64 a1_0, .bool a1_1] 88 (0, 0))) ∧ Aside0 (wc.heap[gb532]? = some (.cells #[.int .i64 0, .int .i64 0, .string (⟨#[]⟩ : ByteArray)] 61 (0, 0))) ∧ Aside0 (Below w.heap.size w wc))
 case first =>
  have H := HC3.out
  clear HC3
  by_cases c7 : a1_1 = true
  ·subst c7
   have H1 : (if a0_0 = 0 then (tacticianref01_TameAs.j0 k true a0_0 a0_1 a0_2 a1_0 true) else (tacticianref01_TameAs.j0 k ((Int.tmod (IntKind.u64.wrap (a0_1)) 5) == 4) a0_0 a0_1 a0_2 a1_0 true)) = some (r1, r2, r3) := by rw [if_pos rfl] at H; exact H
   clear H
   have H := H1
   clear H1
   by_cases c8 : a0_0 = 0
   ·rw [if_pos c8] at H
    have c8b0 : (a0_0 == 0) = true := beq_iff_eq.mpr c8
    have c8b1 : (a0_0 != 0) = false := bne_eq_false_iff_eq.mpr c8
    clear c8
    (first | rw [c8b0] | (simp only [i64_w, i32_w]; rw [c8b0]) | skip)
    have H' := Aside0.mk H
    clear H
    have hnb9 := NB531_530.out
    have hnc9 := NB530_531.out
    have hnb10 := NB531_532.out
    have hnc10 := NB532_531.out
    have hcz11_0 : w6.cell? ⟨gb531, 0, none⟩ = some (.int .i64 a1_0) := (blk_cell BK531.out 0).trans rfl
    have hcz11_1 : w6.cell? ⟨gb531, 1, none⟩ = some (.bool true) := (blk_cell BK531.out 1).trans rfl
    have hfz11_0 := blk_frozen BK531.out 0
    have hfz11_1 := blk_frozen BK531.out 1
    have hnb12 := NB530_532.out
    have hnc12 := NB532_530.out
    have hcz13_0 : w6.cell? ⟨gb530, 0, none⟩ = some (.int .i64 a0_0) := (blk_cell BK530.out 0).trans rfl
    have hcz13_1 : w6.cell? ⟨gb530, 1, none⟩ = some (.int .i64 a0_1) := (blk_cell BK530.out 1).trans rfl
    have hcz13_2 : w6.cell? ⟨gb530, 2, none⟩ = some (.string a0_2) := (blk_cell BK530.out 2).trans rfl
    have hfz13_0 := blk_frozen BK530.out 0
    have hfz13_1 := blk_frozen BK530.out 1
    have hfz13_2 := blk_frozen BK530.out 2
    go_wp2
    repeat (go_quiet (fail); try go_wp2)
    go_meet
    case rel => exact ⟨_, (true), (by first | rfl | (simp; done) | (simp [*]; done)), H', ⟨by first | omega | exact Nat.le_refl _⟩, ⟨by (with_reducible repeat (first | refine zN ?_ _ | refine zD ?_ | refine zA ?_ _)); exact BK530.out⟩, ⟨by (with_reducible repeat (first | refine zN ?_ _ | refine zD ?_ | refine zA ?_ _)); exact BK531.out⟩, ⟨by (with_reducible repeat (first | refine zN ?_ _ | refine zD ?_ | refine zA ?_ _)); exact BK532.out⟩, ⟨by repeat (first | (with_reducible first | exact HB.out | apply yA | apply yN | apply yD | refine below_set ?_ GE530.out | refine below_set ?_ GE531.out | refine below_set ?_ GE532.out) | exact HB.out)⟩⟩
   ·rw [if_neg c8] at H
    have c8b0 : (a0_0 == 0) = false := beq_eq_false_iff_ne.mpr c8
    have c8b1 : (a0_0 != 0) = true := bne_iff_ne.mpr c8
    (first | rw [c8b0] | (simp only [i64_w, i32_w]; rw [c8b0]) | skip)
    have H' := Aside0.mk H
    clear H
    have hnb14 := NB531_530.out
    have hnc14 := NB530_531.out
    have hnb15 := NB531_532.out
    have hnc15 := NB532_531.out
    have hcz16_0 : w6.cell? ⟨gb531, 0, none⟩ = some (.int .i64 a1_0) := (blk_cell BK531.out 0).trans rfl
    have hcz16_1 : w6.cell? ⟨gb531, 1, none⟩ = some (.bool true) := (blk_cell BK531.out 1).trans rfl
    have hfz16_0 := blk_frozen BK531.out 0
    have hfz16_1 := blk_frozen BK531.out 1
    have hnb17 := NB530_532.out
    have hnc17 := NB532_530.out
    have hcz18_0 : w6.cell? ⟨gb530, 0, none⟩ = some (.int .i64 a0_0) := (blk_cell BK530.out 0).trans rfl
    have hcz18_1 : w6.cell? ⟨gb530, 1, none⟩ = some (.int .i64 a0_1) := (blk_cell BK530.out 1).trans rfl
    have hcz18_2 : w6.cell? ⟨gb530, 2, none⟩ = some (.string a0_2) := (blk_cell BK530.out 2).trans rfl
    have hfz18_0 := blk_frozen BK530.out 0
    have hfz18_1 := blk_frozen BK530.out 1
    have hfz18_2 := blk_frozen BK530.out 2
    go_wp2
    repeat (go_quiet (fail); try go_wp2)
    go_meet
    case rel => exact ⟨_, (((Int.tmod (IntKind.u64.wrap (a0_1)) 5) == 4)), (by first | rfl | (simp; done) | (simp [*]; done)), H', ⟨by first | omega | exact Nat.le_refl _⟩, ⟨by (with_reducible repeat (first | refine zN ?_ _ | refine zD ?_ | refine zA ?_ _)); exact BK530.out⟩, ⟨by (with_reducible repeat (first | refine zN ?_ _ | refine zD ?_ | refine zA ?_ _)); exact BK531.out⟩, ⟨by (with_reducible repeat (first | refine zN ?_ _ | refine zD ?_ | refine zA ?_ _)); exact BK532.out⟩, ⟨by repeat (first | (with_reducible first | exact HB.out | apply yA | apply yN | apply yD | refine below_set ?_ GE530.out | refine below_set ?_ GE531.out | refine below_set ?_ GE532.out) | exact HB.out)⟩⟩
  ·replace c7 := Bool.eq_false_iff.mpr c7
   subst c7
   have H1 : (tacticianref01_TameAs.j0 k false a0_0 a0_1 a0_2 a1_0 false) = some (r1, r2, r3) := by rw [if_neg (show ¬ (false = true) by decide)] at H; exact H
   clear H
   have H := H1
   clear H1
   have H' := Aside0.mk H
   clear H
   have hnb19 := NB531_530.out
   have hnc19 := NB530_531.out
   have hnb20 := NB531_532.out
   have hnc20 := NB532_531.out
   have hcz21_0 : w6.cell? ⟨gb531, 0, none⟩ = some (.int .i64 a1_0) := (blk_cell BK531.out 0).trans rfl
   have hcz21_1 : w6.cell? ⟨gb531, 1, none⟩ = some (.bool false) := (blk_cell BK531.out 1).trans rfl
   have hfz21_0 := blk_frozen BK531.out 0
   have hfz21_1 := blk_frozen BK531.out 1
   go_wp2
   repeat (go_quiet (fail); try go_wp2)
   go_meet
   case rel => exact ⟨_, (false), (by first | rfl | (simp; done) | (simp [*]; done)), H', ⟨by first | omega | exact Nat.le_refl _⟩, ⟨by (with_reducible repeat (first | refine zN ?_ _ | refine zD ?_ | refine zA ?_ _)); exact BK530.out⟩, ⟨by (with_reducible repeat (first | refine zN ?_ _ | refine zD ?_ | refine zA ?_ _)); exact BK531.out⟩, ⟨by (with_reducible repeat (first | refine zN ?_ _ | refine zD ?_ | refine zA ?_ _)); exact BK532.out⟩, ⟨by repeat (first | (with_reducible first | exact HB.out | apply yA | apply yN | apply yD | refine below_set ?_ GE530.out | refine below_set ?_ GE531.out | refine below_set ?_ GE532.out) | exact HB.out)⟩⟩
 case rest =>
  clear HC3
  try clear c1
  try clear c2
  try clear p2
  try clear c7
  try clear c8
  try clear c8b0
  try clear c8b1
  try clear c9
  try clear c10
  try clear c11
  try clear c12
  try clear c14
  try clear c15
  try clear c17
  try clear c19
  try clear c20
  try clear hcz11_0
  try clear hcz11_1
  try clear hcz13_0
  try clear hcz13_1
  try clear hcz13_2
  try clear hcz16_0
  try clear hcz16_1
  try clear hcz18_0
  try clear hcz18_1
  try clear hcz18_2
  try clear hcz21_0
  try clear hcz21_1
  try clear hfz11_0
  try clear hfz11_1
  try clear hfz13_0
  try clear hfz13_1
  try clear hfz13_2
  try clear hfz16_0
  try clear hfz16_1
  try clear hfz18_0
  try clear hfz18_1
  try clear hfz18_2
  try clear hfz21_0
  try clear hfz21_1
  obtain ⟨kq, x20_2, rfl, HA, HJ2, BK530, BK531, BK532, HB⟩ := hcut
  cases kq with
  | zero => exact absurd HA.out (by simp [tacticianref01_TameAs.j0])
  | succ kj2 =>
   have H := HA.out
   clear HA
   simp only [tacticianref01_TameAs.j0] at H
   by_cases c22 : x20_2 = true
   ·subst c22
    have H1 : ((tacticianref01_Null.f).bind fun bt533 => (some (bt533.1, bt533.2.1, bt533.2.2))) = some (r1, r2, r3) := by rw [if_pos rfl] at H; exact H
    clear H
    have H := H1
    clear H1
    replace H := Option.bind_eq_some_iff.mp H
    obtain ⟨⟨t533, t534, t535⟩, A230, H⟩ := H
    replace H : (some (t533, t534, t535)) = some (r1, r2, r3) := H
    have A23 := Aside0.mk A230
    clear A230
    simp only [Option.some.injEq, Prod.mk.injEq] at H
    obtain ⟨rfl, rfl, rfl⟩ := H
    go_wp2_with (first | (go_at_call 141; (with_reducible refine (tacticianref01_Null.calls  t533 t534 t535 _ A23.out).mono ?_); rintro e w24 ⟨rfl, hb⟩; have n0_ := Aside0.mk (blk_below (g := gb530) (o := .cells #[.int .i64 a0_0, .int .i64 a0_1, .string a0_2] 61 (0, 0)) (by (with_reducible repeat (first | refine zN ?_ _ | refine zD ?_ | refine zA ?_ _)); exact BK530.out) hb); have n1_ := Aside0.mk (blk_below (g := gb531) (o := .cells #[.int .i64 a1_0, .bool a1_1] 88 (0, 0)) (by (with_reducible repeat (first | refine zN ?_ _ | refine zD ?_ | refine zA ?_ _)); exact BK531.out) hb); have n2_ := Aside0.mk (blk_below (g := gb532) (o := .cells #[.int .i64 0, .int .i64 0, .string (⟨#[]⟩ : ByteArray)] 61 (0, 0)) (by (with_reducible repeat (first | refine zN ?_ _ | refine zD ?_ | refine zA ?_ _)); exact BK532.out) hb); have n3_ := Aside0.mk (below_step (by repeat (first | (with_reducible first | exact HB.out | apply yA | apply yN | apply yD | refine below_set ?_ GE530.out | refine below_set ?_ GE531.out | refine below_set ?_ GE532.out) | exact HB.out)) hb); clear BK530; clear BK531; clear BK532; clear HB; have BK530 := n0_; have BK531 := n1_; have BK532 := n2_; have HB := n3_; clear n0_ n1_ n2_ n3_; (try clear hb); (try clear hb2); (try clear hk); (try clear hi); have hnb25 := NB532_530.out; have hnc25 := NB530_532.out; have hnb26 := NB532_531.out; have hnc26 := NB531_532.out; have hcz27_0 : w24.cell? ⟨gb532, 0, none⟩ = some (.int .i64 0) := (blk_cell BK532.out 0).trans rfl; have hcz27_1 : w24.cell? ⟨gb532, 1, none⟩ = some (.int .i64 0) := (blk_cell BK532.out 1).trans rfl; have hcz27_2 : w24.cell? ⟨gb532, 2, none⟩ = some (.string (⟨#[]⟩ : ByteArray)) := (blk_cell BK532.out 2).trans rfl; have hfz27_0 := blk_frozen BK532.out 0; have hfz27_1 := blk_frozen BK532.out 1; have hfz27_2 := blk_frozen BK532.out 2))
    repeat (go_quiet (first | (go_at_call 141; (with_reducible refine (tacticianref01_Null.calls  t533 t534 t535 _ A23.out).mono ?_); rintro e w24 ⟨rfl, hb⟩; have n0_ := Aside0.mk (blk_below (g := gb530) (o := .cells #[.int .i64 a0_0, .int .i64 a0_1, .string a0_2] 61 (0, 0)) (by (with_reducible repeat (first | refine zN ?_ _ | refine zD ?_ | refine zA ?_ _)); exact BK530.out) hb); have n1_ := Aside0.mk (blk_below (g := gb531) (o := .cells #[.int .i64 a1_0, .bool a1_1] 88 (0, 0)) (by (with_reducible repeat (first | refine zN ?_ _ | refine zD ?_ | refine zA ?_ _)); exact BK531.out) hb); have n2_ := Aside0.mk (blk_below (g := gb532) (o := .cells #[.int .i64 0, .int .i64 0, .string (⟨#[]⟩ : ByteArray)] 61 (0, 0)) (by (with_reducible repeat (first | refine zN ?_ _ | refine zD ?_ | refine zA ?_ _)); exact BK532.out) hb); have n3_ := Aside0.mk (below_step (by repeat (first | (with_reducible first | exact HB.out | apply yA | apply yN | apply yD | refine below_set ?_ GE530.out | refine below_set ?_ GE531.out | refine below_set ?_ GE532.out) | exact HB.out)) hb); clear BK530; clear BK531; clear BK532; clear HB; have BK530 := n0_; have BK531 := n1_; have BK532 := n2_; have HB := n3_; clear n0_ n1_ n2_ n3_; (try clear hb); (try clear hb2); (try clear hk); (try clear hi); have hnb25 := NB532_530.out; have hnc25 := NB530_532.out; have hnb26 := NB532_531.out; have hnc26 := NB531_532.out; have hcz27_0 : w24.cell? ⟨gb532, 0, none⟩ = some (.int .i64 0) := (blk_cell BK532.out 0).trans rfl; have hcz27_1 : w24.cell? ⟨gb532, 1, none⟩ = some (.int .i64 0) := (blk_cell BK532.out 1).trans rfl; have hcz27_2 : w24.cell? ⟨gb532, 2, none⟩ = some (.string (⟨#[]⟩ : ByteArray)) := (blk_cell BK532.out 2).trans rfl; have hfz27_0 := blk_frozen BK532.out 0; have hfz27_1 := blk_frozen BK532.out 1; have hfz27_2 := blk_frozen BK532.out 2)); try go_wp2_with (first | (go_at_call 141; (with_reducible refine (tacticianref01_Null.calls  t533 t534 t535 _ A23.out).mono ?_); rintro e w24 ⟨rfl, hb⟩; have n0_ := Aside0.mk (blk_below (g := gb530) (o := .cells #[.int .i64 a0_0, .int .i64 a0_1, .string a0_2] 61 (0, 0)) (by (with_reducible repeat (first | refine zN ?_ _ | refine zD ?_ | refine zA ?_ _)); exact BK530.out) hb); have n1_ := Aside0.mk (blk_below (g := gb531) (o := .cells #[.int .i64 a1_0, .bool a1_1] 88 (0, 0)) (by (with_reducible repeat (first | refine zN ?_ _ | refine zD ?_ | refine zA ?_ _)); exact BK531.out) hb); have n2_ := Aside0.mk (blk_below (g := gb532) (o := .cells #[.int .i64 0, .int .i64 0, .string (⟨#[]⟩ : ByteArray)] 61 (0, 0)) (by (with_reducible repeat (first | refine zN ?_ _ | refine zD ?_ | refine zA ?_ _)); exact BK532.out) hb); have n3_ := Aside0.mk (below_step (by repeat (first | (with_reducible first | exact HB.out | apply yA | apply yN | apply yD | refine below_set ?_ GE530.out | refine below_set ?_ GE531.out | refine below_set ?_ GE532.out) | exact HB.out)) hb); clear BK530; clear BK531; clear BK532; clear HB; have BK530 := n0_; have BK531 := n1_; have BK532 := n2_; have HB := n3_; clear n0_ n1_ n2_ n3_; (try clear hb); (try clear hb2); (try clear hk); (try clear hi); have hnb25 := NB532_530.out; have hnc25 := NB530_532.out; have hnb26 := NB532_531.out; have hnc26 := NB531_532.out; have hcz27_0 : w24.cell? ⟨gb532, 0, none⟩ = some (.int .i64 0) := (blk_cell BK532.out 0).trans rfl; have hcz27_1 : w24.cell? ⟨gb532, 1, none⟩ = some (.int .i64 0) := (blk_cell BK532.out 1).trans rfl; have hcz27_2 : w24.cell? ⟨gb532, 2, none⟩ = some (.string (⟨#[]⟩ : ByteArray)) := (blk_cell BK532.out 2).trans rfl; have hfz27_0 := blk_frozen BK532.out 0; have hfz27_1 := blk_frozen BK532.out 1; have hfz27_2 := blk_frozen BK532.out 2)))
    refine bodyPost_ret (results_cell_row rfl _ _ gb532 61 #[.int .i64 t533, .int .i64 t534, .string t535] (0, 0) _ rfl (by (with_reducible repeat (first | refine zN ?_ _ | refine zD ?_ | refine zA ?_ _)); refine blk_put (cs := #[.int .i64 t533, .int .i64 t534, .string (⟨#[]⟩ : ByteArray)]) ?_ 2 _ rfl; (with_reducible repeat (first | refine zN ?_ _ | refine zD ?_ | refine zA ?_ _)); refine blk_put (cs := #[.int .i64 t533, .int .i64 0, .string (⟨#[]⟩ : ByteArray)]) ?_ 1 _ rfl; (with_reducible repeat (first | refine zN ?_ _ | refine zD ?_ | refine zA ?_ _)); refine blk_put (cs := #[.int .i64 0, .int .i64 0, .string (⟨#[]⟩ : ByteArray)]) ?_ 0 _ rfl; (with_reducible repeat (first | refine zN ?_ _ | refine zD ?_ | refine zA ?_ _)); exact BK532.out) Tryz.underlying61 rfl (by kernel_rfl)) rfl ?_
    exact ⟨by first | rfl | (simp [errW_none, errW_some] <;> rfl) | (simp [*, errW_none, errW_some] <;> rfl), by repeat (first | (with_reducible first | exact HB.out | apply yA | apply yN | apply yD | refine below_set ?_ GE530.out | refine below_set ?_ GE531.out | refine below_set ?_ GE532.out) | exact HB.out)⟩
   ·replace c22 := Bool.eq_false_iff.mpr c22
    subst c22
    have H1 : (if a1_0 = 2 then ((tacticianref01_Bool.f ((Int.tmod a0_1 2) != 0)).bind fun bt536 => (some (bt536.1, bt536.2.1, bt536.2.2))) else (if a1_0 = 3 then (tacticianref01_TameAs.l0 kj2 (⟨#[]⟩ : ByteArray) 0 a0_0 a0_1 a0_2) else (if (Int.tmod (IntKind.u64.wrap (a0_1)) 16) = 15 then ((tacticianref01_Int.f a0_1).bind fun bt545 => (some (bt545.1, bt545.2.1, bt545.2.2))) else ((tacticianref01_Int.f (wrap64 ((wrap64 (Int.tmod (IntKind.u64.wrap (a0_1)) 7)) - 2))).bind fun bt548 => (some (bt548.1, bt548.2.1, bt548.2.2)))))) = some (r1, r2, r3) := by rw [if_neg (show ¬ (false = true) by decide)] at H; exact H
    clear H
    have H := H1
    clear H1
    by_cases c28 : a1_0 = 2
    ·rw [if_pos c28] at H
     have c28b0 : (a1_0 == 2) = true := beq_iff_eq.mpr c28
     have c28b1 : (a1_0 != 2) = false := bne_eq_false_iff_eq.mpr c28
     clear c28
     replace H := Option.bind_eq_some_iff.mp H
     obtain ⟨⟨t536, t537, t538⟩, A290, H⟩ := H
     replace H : (some (t536, t537, t538)) = some (r1, r2, r3) := H
     have A29 := Aside0.mk A290
     clear A290
     simp only [Option.some.injEq, Prod.mk.injEq] at H
     obtain ⟨rfl, rfl, rfl⟩ := H
     have hnb30 := NB531_530.out
     have hnc30 := NB530_531.out
     have hnb31 := NB531_532.out
     have hnc31 := NB532_531.out
     have hcz32_0 : wc.cell? ⟨gb531, 0, none⟩ = some (.int .i64 a1_0) := (blk_cell BK531.out 0).trans rfl
     have hcz32_1 : wc.cell? ⟨gb531, 1, none⟩ = some (.bool a1_1) := (blk_cell BK531.out 1).trans rfl
     have hfz32_0 := blk_frozen BK531.out 0
     have hfz32_1 := blk_frozen BK531.out 1
     have hnb33 := NB530_532.out
     have hnc33 := NB532_530.out
     have hcz34_0 : wc.cell? ⟨gb530, 0, none⟩ = some (.int .i64 a0_0) := (blk_cell BK530.out 0).trans rfl
     have hcz34_1 : wc.cell? ⟨gb530, 1, none⟩ = some (.int .i64 a0_1) := (blk_cell BK530.out 1).trans rfl
     have hcz34_2 : wc.cell? ⟨gb530, 2, none⟩ = some (.string a0_2) := (blk_cell BK530.out 2).trans rfl
     have hfz34_0 := blk_frozen BK530.out 0
     have hfz34_1 := blk_frozen BK530.out 1
     have hfz34_2 := blk_frozen BK530.out 2
     go_wp2_with (first | (go_at_call 142; (with_reducible refine (tacticianref01_Bool.calls ((Int.tmod a0_1 2) != 0) t536 t537 t538 _ A29.out).mono ?_); rintro e w35 ⟨rfl, hb⟩; have n0_ := Aside0.mk (blk_below (g := gb530) (o := .cells #[.int .i64 a0_0, .int .i64 a0_1, .string a0_2] 61 (0, 0)) (by (with_reducible repeat (first | refine zN ?_ _ | refine zD ?_ | refine zA ?_ _)); exact BK530.out) hb); have n1_ := Aside0.mk (blk_below (g := gb531) (o := .cells #[.int .i64 a1_0, .bool a1_1] 88 (0, 0)) (by (with_reducible repeat (first | refine zN ?_ _ | refine zD ?_ | refine zA ?_ _)); exact BK531.out) hb); have n2_ := Aside0.mk (blk_below (g := gb532) (o := .cells #[.int .i64 0, .int .i64 0, .string (⟨#[]⟩ : ByteArray)] 61 (0, 0)) (by (with_reducible repeat (first | refine zN ?_ _ | refine zD ?_ | refine zA ?_ _)); exact BK532.out) hb); have n3_ := Aside0.mk (below_step (by repeat (first | (with_reducible first | exact HB.out | apply yA | apply yN | apply yD | refine below_set ?_ GE530.out | refine below_set ?_ GE531.out | refine below_set ?_ GE532.out) | exact HB.out)) hb); clear BK530; clear BK531; clear BK532; clear HB; have BK530 := n0_; have BK531 := n1_; have BK532 := n2_; have HB := n3_; clear n0_ n1_ n2_ n3_; (try clear hb); (try clear hb2); (try clear hk); (try clear hi); have hcz36_0 : w35.cell? ⟨gb532, 0, none⟩ = some (.int .i64 0) := (blk_cell BK532.out 0).trans rfl; have hcz36_1 : w35.cell? ⟨gb532, 1, none⟩ = some (.int .i64 0) := (blk_cell BK532.out 1).trans rfl; have hcz36_2 : w35.cell? ⟨gb532, 2, none⟩ = some (.string (⟨#[]⟩ : ByteArray)) := (blk_cell BK532.out 2).trans rfl; have hfz36_0 := blk_frozen BK532.out 0; have hfz36_1 := blk_frozen BK532.out 1; have hfz36_2 := blk_frozen BK532.out 2))
     repeat (go_quiet (first | (go_at_call 142; (with_reducible refine (tacticianref01_Bool.calls ((Int.tmod a0_1 2) != 0) t536 t537 t538 _ A29.out).mono ?_); rintro e w35 ⟨rfl, hb⟩; have n0_ := Aside0.mk (blk_below (g := gb530) (o := .cells #[.int .i64 a0_0, .int .i64 a0_1, .string a0_2] 61 (0, 0)) (by (with_reducible repeat (first | refine zN ?_ _ | refine zD ?_ | refine zA ?_ _)); exact BK530.out) hb); have n1_ := Aside0.mk (blk_below (g := gb531) (o := .cells #[.int .i64 a1_0, .bool a1_1] 88 (0, 0)) (by (with_reducible repeat (first | refine zN ?_ _ | refine zD ?_ | refine zA ?_ _)); exact BK531.out) hb); have n2_ := Aside0.mk (blk_below (g := gb532) (o := .cells #[.int .i64 0, .int .i64 0, .string (⟨#[]⟩ : ByteArray)] 61 (0, 0)) (by (with_reducible repeat (first | refine zN ?_ _ | refine zD ?_ | refine zA ?_ _)); exact BK532.out) hb); have n3_ := Aside0.mk (below_step (by repeat (first | (with_reducible first | exact HB.out | apply yA | apply yN | apply yD | refine below_set ?_ GE530.out | refine below_set ?_ GE531.out | refine below_set ?_ GE532.out) | exact HB.out)) hb); clear BK530; clear BK531; clear BK532; clear HB; have BK530 := n0_; have BK531 := n1_; have BK532 := n2_; have HB := n3_; clear n0_ n1_ n2_ n3_; (try clear hb); (try clear hb2); (try clear hk); (try clear hi); have hcz36_0 : w35.cell? ⟨gb532, 0, none⟩ = some (.int .i64 0) := (blk_cell BK532.out 0).trans rfl; have hcz36_1 : w35.cell? ⟨gb532, 1, none⟩ = some (.int .i64 0) := (blk_cell BK532.out 1).trans rfl; have hcz36_2 : w35.cell? ⟨gb532, 2, none⟩ = some (.string (⟨#[]⟩ : ByteArray)) := (blk_cell BK532.out 2).trans rfl; have hfz36_0 := blk_frozen BK532.out 0; have hfz36_1 := blk_frozen BK532.out 1; have hfz36_2 := blk_frozen BK532.out 2)); try go_wp2_with (first | (go_at_call 142; (with_reducible refine (tacticianref01_Bool.calls ((Int.tmod a0_1 2) != 0) t536 t537 t538 _ A29.out).mono ?_); rintro e w35 ⟨rfl, hb⟩; have n0_ := Aside0.mk (blk_below (g := gb530) (o := .cells #[.int .i64 a0_0, .int .i64 a0_1, .string a0_2] 61 (0, 0)) (by (with_reducible repeat (first | refine zN ?_ _ | refine zD ?_ | refine zA ?_ _)); exact BK530.out) hb); have n1_ := Aside0.mk (blk_below (g := gb531) (o := .cells #[.int .i64 a1_0, .bool a1_1] 88 (0, 0)) (by (with_reducible repeat (first | refine zN ?_ _ | refine zD ?_ | refine zA ?_ _)); exact BK531.out) hb); have n2_ := Aside0.mk (blk_below (g := gb532) (o := .cells #[.int .i64 0, .int .i64 0, .string (⟨#[]⟩ : ByteArray)] 61 (0, 0)) (by (with_reducible repeat (first | refine zN ?_ _ | refine zD ?_ | refine zA ?_ _)); exact BK532.out) hb); have n3_ := Aside0.mk (below_step (by repeat (first | (with_reducible first | exact HB.out | apply yA | apply yN | apply yD | refine below_set ?_ GE530.out | refine below_set ?_ GE531.out | refine below_set ?_ GE532.out) | exact HB.out)) hb); clear BK530; clear BK531; clear BK532; clear HB; have BK530 := n0_; have BK531 := n1_; have BK532 := n2_; have HB := n3_; clear n0_ n1_ n2_ n3_; (try clear hb); (try clear hb2); (try clear hk); (try clear hi); have hcz36_0 : w35.cell? ⟨gb532, 0, none⟩ = some (.int .i64 0) := (blk_cell BK532.out 0).trans rfl; have hcz36_1 : w35.cell? ⟨gb532, 1, none⟩ = some (.int .i64 0) := (blk_cell BK532.out 1).trans rfl; have hcz36_2 : w35.cell? ⟨gb532, 2, none⟩ = some (.string (⟨#[]⟩ : ByteArray)) := (blk_cell BK532.out 2).trans rfl; have hfz36_0 := blk_frozen BK532.out 0; have hfz36_1 := blk_frozen BK532.out 1; have hfz36_2 := blk_frozen BK532.out 2)))
     refine bodyPost_ret (results_cell_row rfl _ _ gb532 61 #[.int .i64 t536, .int .i64 t537, .string t538] (0, 0) _ rfl (by (with_reducible repeat (first | refine zN ?_ _ | refine zD ?_ | refine zA ?_ _)); refine blk_put (cs := #[.int .i64 t536, .int .i64 t537, .string (⟨#[]⟩ : ByteArray)]) ?_ 2 _ rfl; (with_reducible repeat (first | refine zN ?_ _ | refine zD ?_ | refine zA ?_ _)); refine blk_put (cs := #[.int .i64 t536, .int .i64 0, .string (⟨#[]⟩ : ByteArray)]) ?_ 1 _ rfl; (with_reducible repeat (first | refine zN ?_ _ | refine zD ?_ | refine zA ?_ _)); refine blk_put (cs := #[.int .i64 0, .int .i64 0, .string (⟨#[]⟩ : ByteArray)]) ?_ 0 _ rfl; (with_reducible repeat (first | refine zN ?_ _ | refine zD ?_ | refine zA ?_ _)); exact BK532.out) Tryz.underlying61 rfl (by kernel_rfl)) rfl ?_
     exact ⟨by first | rfl | (simp [errW_none, errW_some] <;> rfl) | (simp [*, errW_none, errW_some] <;> rfl), by repeat (first | (with_reducible first | exact HB.out | apply yA | apply yN | apply yD | refine below_set ?_ GE530.out | refine below_set ?_ GE531.out | refine below_set ?_ GE532.out) | exact HB.out)⟩
    ·rw [if_neg c28] at H
     have c28b0 : (a1_0 == 2) = false := beq_eq_false_iff_ne.mpr c28
     have c28b1 : (a1_0 != 2) = true := bne_iff_ne.mpr c28
     by_cases c37 : a1_0 = 3
     ·rw [if_pos c37] at H
      have c37b0 : (a1_0 == 3) = true := beq_iff_eq.mpr c37
      have c37b1 : (a1_0 != 3) = false := bne_eq_false_iff_eq.mpr c37
      clear c37
      have H' := Aside0.mk H
      clear H
      have hnb38 := NB531_530.out
      have hnc38 := NB530_531.out
      have hnb39 := NB531_532.out
      have hnc39 := NB532_531.out
      have hcz40_0 : wc.cell? ⟨gb531, 0, none⟩ = some (.int .i64 a1_0) := (blk_cell BK531.out 0).trans rfl
      have hcz40_1 : wc.cell? ⟨gb531, 1, none⟩ = some (.bool a1_1) := (blk_cell BK531.out 1).trans rfl
      have hfz40_0 := blk_frozen BK531.out 0
      have hfz40_1 := blk_frozen BK531.out 1
      go_wp2
      repeat (go_quiet (fail); try go_wp2)
      go_loopg [5, 6] kj2 (fun kq v5 v6 w' => ∃ (x5_2 : ByteArray) (x6_2 : Int), v5 = .string x5_2 ∧ v6 = .int .i64 x6_2 ∧ Aside0 (tacticianref01_TameAs.l0 kq x5_2 x6_2 a0_0 a0_1 a0_2 = some (r1, r2, r3)) ∧ Aside0 (kq ≤ kj2) ∧ Aside0 (w'.heap[gb530]? = some (.cells #[.int .i64 a0_0, .int .i64 a0_1, .string a0_2] 61 (0, 0))) ∧ Aside0 (w'.heap[gb531]? = some (.cells #[.int .i64 a1_0, .bool a1_1] 88 (0, 0))) ∧ Aside0 (w'.heap[gb532]? = some (.cells #[.int .i64 0, .int .i64 0, .string (⟨#[]⟩ : ByteArray)] 61 (0, 0))) ∧ Aside0 (Below w.heap.size w w'))
      case atStart => exact ⟨((⟨#[]⟩ : ByteArray)), (0), (by first | rfl | (simp; done) | (simp [*]; done)), (by first | rfl | (simp; done) | (simp [*]; done)), H', ⟨Nat.le_refl _⟩, ⟨by (with_reducible repeat (first | refine zN ?_ _ | refine zD ?_ | refine zA ?_ _)); exact BK530.out⟩, ⟨by (with_reducible repeat (first | refine zN ?_ _ | refine zD ?_ | refine zA ?_ _)); exact BK531.out⟩, ⟨by (with_reducible repeat (first | refine zN ?_ _ | refine zD ?_ | refine zA ?_ _)); exact BK532.out⟩, ⟨by repeat (first | (with_reducible first | exact HB.out | apply yA | apply yN | apply yD | refine below_set ?_ GE530.out | refine below_set ?_ GE531.out | refine below_set ?_ GE532.out) | exact HB.out)⟩⟩
      case round =>
       clear H'
       try clear c1
       try clear c2
       try clear p2
       try clear c3
       try clear p6
       try clear c7
       try clear c8
       try clear c8b0
       try clear c8b1
       try clear c9
       try clear c10
       try clear c11
       try clear c12
       try clear c14
       try clear c15
       try clear c17
       try clear c19
       try clear c20
       try clear c22
       try clear c25
       try clear c26
       try clear c28
       try clear c28b0
       try clear c28b1
       try clear c30
       try clear c31
       try clear c33
       try clear c37
       try clear c37b0
       try clear c37b1
       try clear c38
       try clear c39
       try clear hcz11_0
       try clear hcz11_1
       try clear hcz13_0
       try clear hcz13_1
       try clear hcz13_2
       try clear hcz16_0
       try clear hcz16_1
       try clear hcz18_0
       try clear hcz18_1
       try clear hcz18_2
       try clear hcz21_0
       try clear hcz21_1
       try clear hcz27_0
       try clear hcz27_1
       try clear hcz27_2
       try clear hcz32_0
       try clear hcz32_1
       try clear hcz34_0
       try clear hcz34_1
       try clear hcz34_2
       try clear hcz36_0
       try clear hcz36_1
       try clear hcz36_2
       try clear hcz40_0
       try clear hcz40_1
       try clear hfz11_0
       try clear hfz11_1
       try clear hfz13_0
       try clear hfz13_1
       try clear hfz13_2
       try clear hfz16_0
       try clear hfz16_1
       try clear hfz18_0
       try clear hfz18_1
       try clear hfz18_2
       try clear hfz21_0
       try clear hfz21_1
       try clear hfz27_0
       try clear hfz27_1
       try clear hfz27_2
       try clear hfz32_0
       try clear hfz32_1
       try clear hfz34_0
       try clear hfz34_1
       try clear hfz34_2
       try clear hfz36_0
       try clear hfz36_1
       try clear hfz36_2
       try clear hfz40_0
       try clear hfz40_1
       try clear p2
       obtain ⟨x5_2, x6_2, rfl, rfl, HA, HK2, BK530, BK531, BK532, HB⟩ := hrel
       cases gk with
       | zero => exact absurd HA.out (by simp [tacticianref01_TameAs.l0])
       | succ k2 =>
        have H := HA.out
        clear HA
        simp only [tacticianref01_TameAs.l0] at H
        by_cases c41 : x6_2 < (a0_2.size : Int)
        ·rw [if_pos c41] at H
         have c41b0 : decide (x6_2 < (a0_2.size : Int)) = true := decide_eq_true c41
         clear c41
         by_cases c42 : x6_2 < 3
         ·rw [if_pos c42] at H
          have c42b0 : decide (x6_2 < 3) = true := decide_eq_true c42
          clear c42
          by_cases c43 : 0 ≤ x6_2
          ·rw [if_pos c43] at H
           have c43b0 : decide (0 ≤ x6_2) = true := decide_eq_true c43
           clear c43
           obtain ⟨ji46, hji46⟩ : ∃ j_ : Int, (Int.tmod (bt a0_2 x6_2) 3) = j_ := ⟨_, rfl⟩
           replace H : (if 0 ≤ (ji46) then (if (ji46) ≤ (((ji46) + 1) % 256) then (if (((ji46) + 1) % 256) ≤ 3 then (if x5_2.size + ((⟨#[97, 98, 39]⟩ : ByteArray).extract ((ji46) : Int).toNat ((((ji46) + 1) % 256) : Int).toNat).size ≤ 9223372036854775807 then (tacticianref01_TameAs.l0 k2 (x5_2 ++ ((⟨#[97, 98, 39]⟩ : ByteArray).extract ((ji46) : Int).toNat ((((ji46) + 1) % 256) : Int).toNat)) (wrap64 (x6_2 + 1)) a0_0 a0_1 a0_2) else (none)) else (none)) else (none)) else (none)) = some (r1, r2, r3) := by first | (rw [hji46] at H; exact H) | (simp only [hji46] at H ⊢; exact H)
           by_cases c47 : 0 ≤ (ji46)
           ·rw [if_pos c47] at H
            have c47b0 := eq_true c47
            have c47b1 : decide (0 ≤ (ji46)) = true := decide_eq_true c47
            clear c47
            by_cases c48 : (ji46) ≤ (((ji46) + 1) % 256)
            ·rw [if_pos c48] at H
             have c48b0 := eq_true c48
             have c48b1 : decide ((ji46) ≤ (((ji46) + 1) % 256)) = true := decide_eq_true c48
             by_cases c49 : (((ji46) + 1) % 256) ≤ 3
             ·rw [if_pos c49] at H
              have c49b0 := eq_true c49
              have c49b1 : decide ((((ji46) + 1) % 256) ≤ 3) = true := decide_eq_true c49
              by_cases c50 : x5_2.size + ((⟨#[97, 98, 39]⟩ : ByteArray).extract ((ji46) : Int).toNat ((((ji46) + 1) % 256) : Int).toNat).size ≤ 9223372036854775807
              ·rw [if_pos c50] at H
               have c50b0 := eq_true c50
               have c50b1 : decide (x5_2.size + ((⟨#[97, 98, 39]⟩ : ByteArray).extract ((ji46) : Int).toNat ((((ji46) + 1) % 256) : Int).toNat).size ≤ 9223372036854775807) = true := decide_eq_true c50
               try have c50b2 : (9223372036854775807 < x5_2.size + ((⟨#[97, 98, 39]⟩ : ByteArray).extract ((ji46) : Int).toNat ((((ji46) + 1) % 256) : Int).toNat).size) = False := eq_false (Nat.not_lt.2 c50)
               have H' := Aside0.mk H
               clear H
               have hnb51 := NB530_531.out
               have hnc51 := NB531_530.out
               have hnb52 := NB530_532.out
               have hnc52 := NB532_530.out
               have hcz53_0 : wr.cell? ⟨gb530, 0, none⟩ = some (.int .i64 a0_0) := (blk_cell BK530.out 0).trans rfl
               have hcz53_1 : wr.cell? ⟨gb530, 1, none⟩ = some (.int .i64 a0_1) := (blk_cell BK530.out 1).trans rfl
               have hcz53_2 : wr.cell? ⟨gb530, 2, none⟩ = some (.string a0_2) := (blk_cell BK530.out 2).trans rfl
               have hfz53_0 := blk_frozen BK530.out 0
               have hfz53_1 := blk_frozen BK530.out 1
               have hfz53_2 := blk_frozen BK530.out 2
               have p44 : 0 ≤ (x6_2 : Int) := of_decide_eq_true (by first | (with_reducible assumption) | assumption)
               have q44 : x6_2 < (a0_2.size : Int) := of_decide_eq_true (by first | (with_reducible assumption) | assumption)
               have hx44 := bt_at a0_2 x6_2
               replace p44 := eq_true p44
               replace q44 := eq_true q44
               have p45 : 0 ≤ (x6_2 : Int) := of_decide_eq_true (by first | (with_reducible assumption) | assumption)
               have q45 : x6_2 < (a0_2.size : Int) := of_decide_eq_true (by first | (with_reducible assumption) | assumption)
               have hx45 := bt_at a0_2 x6_2
               replace p45 := eq_true p45
               replace q45 := eq_true q45
               go_wp2
               repeat (go_quiet (fail); try go_wp2)
               go_roundg k2
               case measure => have := HJ2.out; have := HK2.out; omega
               case rel => exact ⟨(x5_2 ++ ((⟨#[97, 98, 39]⟩ : ByteArray).extract ((ji46) : Int).toNat ((((ji46) + 1) % 256) : Int).toNat)), (wrap64 (x6_2 + 1)), (by first | rfl | (simp; done) | (simp only [← hji46] <;> (first | rfl | simp)) | (simp [*]; done)), (by first | rfl | (simp; done) | (simp [*]; done)), H', ⟨by have := HJ2.out; have := HK2.out; omega⟩, ⟨by (with_reducible repeat (first | refine zN ?_ _ | refine zD ?_ | refine zA ?_ _)); exact BK530.out⟩, ⟨by (with_reducible repeat (first | refine zN ?_ _ | refine zD ?_ | refine zA ?_ _)); exact BK531.out⟩, ⟨by (with_reducible repeat (first | refine zN ?_ _ | refine zD ?_ | refine zA ?_ _)); exact BK532.out⟩, ⟨by repeat (first | (with_reducible first | exact HB.out | apply yA | apply yN | apply yD | refine below_set ?_ GE530.out | refine below_set ?_ GE531.out | refine below_set ?_ GE532.out) | exact HB.out)⟩⟩
              ·rw [if_neg c50] at H
               exact absurd H (by simp)
             ·rw [if_neg c49] at H
              exact absurd H (by simp)
            ·rw [if_neg c48] at H
             exact absurd H (by simp)
           ·rw [if_neg c47] at H
            exact absurd H (by simp)
          ·rw [if_neg c43] at H
           exact absurd H (by simp)
         ·rw [if_neg c42] at H
          have c42b0 : decide (x6_2 < 3) = false := decide_eq_false c42
          clear c42
          replace H := Option.bind_eq_some_iff.mp H
          obtain ⟨⟨t539, t540, t541⟩, A540, H⟩ := H
          replace H : (some (t539, t540, t541)) = some (r1, r2, r3) := H
          have A54 := Aside0.mk A540
          clear A540
          simp only [Option.some.injEq, Prod.mk.injEq] at H
          obtain ⟨rfl, rfl, rfl⟩ := H
          have hnb55 := NB530_531.out
          have hnc55 := NB531_530.out
          have hnb56 := NB530_532.out
          have hnc56 := NB532_530.out
          have hcz57_0 : wr.cell? ⟨gb530, 0, none⟩ = some (.int .i64 a0_0) := (blk_cell BK530.out 0).trans rfl
          have hcz57_1 : wr.cell? ⟨gb530, 1, none⟩ = some (.int .i64 a0_1) := (blk_cell BK530.out 1).trans rfl
          have hcz57_2 : wr.cell? ⟨gb530, 2, none⟩ = some (.string a0_2) := (blk_cell BK530.out 2).trans rfl
          have hfz57_0 := blk_frozen BK530.out 0
          have hfz57_1 := blk_frozen BK530.out 1
          have hfz57_2 := blk_frozen BK530.out 2
          go_wp2_with (first | (go_at_call 143; (with_reducible refine (tacticianref01_Text.calls x5_2 t539 t540 t541 _ A54.out).mono ?_); rintro e w58 ⟨rfl, hb⟩; have n0_ := Aside0.mk (blk_below (g := gb530) (o := .cells #[.int .i64 a0_0, .int .i64 a0_1, .string a0_2] 61 (0, 0)) (by (with_reducible repeat (first | refine zN ?_ _ | refine zD ?_ | refine zA ?_ _)); exact BK530.out) hb); have n1_ := Aside0.mk (blk_below (g := gb531) (o := .cells #[.int .i64 a1_0, .bool a1_1] 88 (0, 0)) (by (with_reducible repeat (first | refine zN ?_ _ | refine zD ?_ | refine zA ?_ _)); exact BK531.out) hb); have n2_ := Aside0.mk (blk_below (g := gb532) (o := .cells #[.int .i64 0, .int .i64 0, .string (⟨#[]⟩ : ByteArray)] 61 (0, 0)) (by (with_reducible repeat (first | refine zN ?_ _ | refine zD ?_ | refine zA ?_ _)); exact BK532.out) hb); have n3_ := Aside0.mk (below_step (by repeat (first | (with_reducible first | exact HB.out | apply yA | apply yN | apply yD | refine below_set ?_ GE530.out | refine below_set ?_ GE531.out | refine below_set ?_ GE532.out) | exact HB.out)) hb); clear BK530; clear BK531; clear BK532; clear HB; have BK530 := n0_; have BK531 := n1_; have BK532 := n2_; have HB := n3_; clear n0_ n1_ n2_ n3_; (try clear hb); (try clear hb2); (try clear hk); (try clear hi); have hnb59 := NB532_531.out; have hnc59 := NB531_532.out; have hcz60_0 : w58.cell? ⟨gb532, 0, none⟩ = some (.int .i64 0) := (blk_cell BK532.out 0).trans rfl; have hcz60_1 : w58.cell? ⟨gb532, 1, none⟩ = some (.int .i64 0) := (blk_cell BK532.out 1).trans rfl; have hcz60_2 : w58.cell? ⟨gb532, 2, none⟩ = some (.string (⟨#[]⟩ : ByteArray)) := (blk_cell BK532.out 2).trans rfl; have hfz60_0 := blk_frozen BK532.out 0; have hfz60_1 := blk_frozen BK532.out 1; have hfz60_2 := blk_frozen BK532.out 2))
          repeat (go_quiet (first | (go_at_call 143; (with_reducible refine (tacticianref01_Text.calls x5_2 t539 t540 t541 _ A54.out).mono ?_); rintro e w58 ⟨rfl, hb⟩; have n0_ := Aside0.mk (blk_below (g := gb530) (o := .cells #[.int .i64 a0_0, .int .i64 a0_1, .string a0_2] 61 (0, 0)) (by (with_reducible repeat (first | refine zN ?_ _ | refine zD ?_ | refine zA ?_ _)); exact BK530.out) hb); have n1_ := Aside0.mk (blk_below (g := gb531) (o := .cells #[.int .i64 a1_0, .bool a1_1] 88 (0, 0)) (by (with_reducible repeat (first | refine zN ?_ _ | refine zD ?_ | refine zA ?_ _)); exact BK531.out) hb); have n2_ := Aside0.mk (blk_below (g := gb532) (o := .cells #[.int .i64 0, .int .i64 0, .string (⟨#[]⟩ : ByteArray)] 61 (0, 0)) (by (with_reducible repeat (first | refine zN ?_ _ | refine zD ?_ | refine zA ?_ _)); exact BK532.out) hb); have n3_ := Aside0.mk (below_step (by repeat (first | (with_reducible first | exact HB.out | apply yA | apply yN | apply yD | refine below_set ?_ GE530.out | refine below_set ?_ GE531.out | refine below_set ?_ GE532.out) | exact HB.out)) hb); clear BK530; clear BK531; clear BK532; clear HB; have BK530 := n0_; have BK531 := n1_; have BK532 := n2_; have HB := n3_; clear n0_ n1_ n2_ n3_; (try clear hb); (try clear hb2); (try clear hk); (try clear hi); have hnb59 := NB532_531.out; have hnc59 := NB531_532.out; have hcz60_0 : w58.cell? ⟨gb532, 0, none⟩ = some (.int .i64 0) := (blk_cell BK532.out 0).trans rfl; have hcz60_1 : w58.cell? ⟨gb532, 1, none⟩ = some (.int .i64 0) := (blk_cell BK532.out 1).trans rfl; have hcz60_2 : w58.cell? ⟨gb532, 2, none⟩ = some (.string (⟨#[]⟩ : ByteArray)) := (blk_cell BK532.out 2).trans rfl; have hfz60_0 := blk_frozen BK532.out 0; have hfz60_1 := blk_frozen BK532.out 1; have hfz60_2 := blk_frozen BK532.out 2)); try go_wp2_with (first | (go_at_call 143; (with_reducible refine (tacticianref01_Text.calls x5_2 t539 t540 t541 _ A54.out).mono ?_); rintro e w58 ⟨rfl, hb⟩; have n0_ := Aside0.mk (blk_below (g := gb530) (o := .cells #[.int .i64 a0_0, .int .i64 a0_1, .string a0_2] 61 (0, 0)) (by (with_reducible repeat (first | refine zN ?_ _ | refine zD ?_ | refine zA ?_ _)); exact BK530.out) hb); have n1_ := Aside0.mk (blk_below (g := gb531) (o := .cells #[.int .i64 a1_0, .bool a1_1] 88 (0, 0)) (by (with_reducible repeat (first | refine zN ?_ _ | refine zD ?_ | refine zA ?_ _)); exact BK531.out) hb); have n2_ := Aside0.mk (blk_below (g := gb532) (o := .cells #[.int .i64 0, .int .i64 0, .string (⟨#[]⟩ : ByteArray)] 61 (0, 0)) (by (with_reducible repeat (first | refine zN ?_ _ | refine zD ?_ | refine zA ?_ _)); exact BK532.out) hb); have n3_ := Aside0.mk (below_step (by repeat (first | (with_reducible first | exact HB.out | apply yA | apply yN | apply yD | refine below_set ?_ GE530.out | refine below_set ?_ GE531.out | refine below_set ?_ GE532.out) | exact HB.out)) hb); clear BK530; clear BK531; clear BK532; clear HB; have BK530 := n0_; have BK531 := n1_; have BK532 := n2_; have HB := n3_; clear n0_ n1_ n2_ n3_; (try clear hb); (try clear hb2); (try clear hk); (try clear hi); have hnb59 := NB532_531.out; have hnc59 := NB531_532.out; have hcz60_0 : w58.cell? ⟨gb532, 0, none⟩ = some (.int .i64 0) := (blk_cell BK532.out 0).trans rfl; have hcz60_1 : w58.cell? ⟨gb532, 1, none⟩ = some (.int .i64 0) := (blk_cell BK532.out 1).trans rfl; have hcz60_2 : w58.cell? ⟨gb532, 2, none⟩ = some (.string (⟨#[]⟩ : ByteArray)) := (blk_cell BK532.out 2).trans rfl; have hfz60_0 := blk_frozen BK532.out 0; have hfz60_1 := blk_frozen BK532.out 1; have hfz60_2 := blk_frozen BK532.out 2)))
          refine bodyPost_ret (results_cell_row rfl _ _ gb532 61 #[.int .i64 t539, .int .i64 t540, .string t541] (0, 0) _ rfl (by (with_reducible repeat (first | refine zN ?_ _ | refine zD ?_ | refine zA ?_ _)); refine blk_put (cs := #[.int .i64 t539, .int .i64 t540, .string (⟨#[]⟩ : ByteArray)]) ?_ 2 _ rfl; (with_reducible repeat (first | refine zN ?_ _ | refine zD ?_ | refine zA ?_ _)); refine blk_put (cs := #[.int .i64 t539, .int .i64 0, .string (⟨#[]⟩ : ByteArray)]) ?_ 1 _ rfl; (with_reducible repeat (first | refine zN ?_ _ | refine zD ?_ | refine zA ?_ _)); refine blk_put (cs := #[.int .i64 0, .int .i64 0, .string (⟨#[]⟩ : ByteArray)]) ?_ 0 _ rfl; (with_reducible repeat (first | refine zN ?_ _ | refine zD ?_ | refine zA ?_ _)); exact BK532.out) Tryz.underlying61 rfl (by kernel_rfl)) rfl ?_
          exact ⟨by first | rfl | (simp [errW_none, errW_some] <;> rfl) | (simp [*, errW_none, errW_some] <;> rfl), by repeat (first | (with_reducible first | exact HB.out | apply yA | apply yN | apply yD | refine below_set ?_ GE530.out | refine below_set ?_ GE531.out | refine below_set ?_ GE532.out) | exact HB.out)⟩
        ·rw [if_neg c41] at H
         have c41b0 : decide (x6_2 < (a0_2.size : Int)) = false := decide_eq_false c41
         clear c41
         replace H := Option.bind_eq_some_iff.mp H
         obtain ⟨⟨t542, t543, t544⟩, A610, H⟩ := H
         replace H : (some (t542, t543, t544)) = some (r1, r2, r3) := H
         have A61 := Aside0.mk A610
         clear A610
         simp only [Option.some.injEq, Prod.mk.injEq] at H
         obtain ⟨rfl, rfl, rfl⟩ := H
         have hnb62 := NB530_531.out
         have hnc62 := NB531_530.out
         have hnb63 := NB530_532.out
         have hnc63 := NB532_530.out
         have hcz64_0 : wr.cell? ⟨gb530, 0, none⟩ = some (.int .i64 a0_0) := (blk_cell BK530.out 0).trans rfl
         have hcz64_1 : wr.cell? ⟨gb530, 1, none⟩ = some (.int .i64 a0_1) := (blk_cell BK530.out 1).trans rfl
         have hcz64_2 : wr.cell? ⟨gb530, 2, none⟩ = some (.string a0_2) := (blk_cell BK530.out 2).trans rfl
         have hfz64_0 := blk_frozen BK530.out 0
         have hfz64_1 := blk_frozen BK530.out 1
         have hfz64_2 := blk_frozen BK530.out 2
         go_wp2_with (first | (go_at_call 143; (with_reducible refine (tacticianref01_Text.calls x5_2 t542 t543 t544 _ A61.out).mono ?_); rintro e w65 ⟨rfl, hb⟩; have n0_ := Aside0.mk (blk_below (g := gb530) (o := .cells #[.int .i64 a0_0, .int .i64 a0_1, .string a0_2] 61 (0, 0)) (by (with_reducible repeat (first | refine zN ?_ _ | refine zD ?_ | refine zA ?_ _)); exact BK530.out) hb); have n1_ := Aside0.mk (blk_below (g := gb531) (o := .cells #[.int .i64 a1_0, .bool a1_1] 88 (0, 0)) (by (with_reducible repeat (first | refine zN ?_ _ | refine zD ?_ | refine zA ?_ _)); exact BK531.out) hb); have n2_ := Aside0.mk (blk_below (g := gb532) (o := .cells #[.int .i64 0, .int .i64 0, .string (⟨#[]⟩ : ByteArray)] 61 (0, 0)) (by (with_reducible repeat (first | refine zN ?_ _ | refine zD ?_ | refine zA ?_ _)); exact BK532.out) hb); have n3_ := Aside0.mk (below_step (by repeat (first | (with_reducible first | exact HB.out | apply yA | apply yN | apply yD | refine below_set ?_ GE530.out | refine below_set ?_ GE531.out | refine below_set ?_ GE532.out) | exact HB.out)) hb); clear BK530; clear BK531; clear BK532; clear HB; have BK530 := n0_; have BK531 := n1_; have BK532 := n2_; have HB := n3_; clear n0_ n1_ n2_ n3_; (try clear hb); (try clear hb2); (try clear hk); (try clear hi); have hnb66 := NB532_531.out; have hnc66 := NB531_532.out; have hcz67_0 : w65.cell? ⟨gb532, 0, none⟩ = some (.int .i64 0) := (blk_cell BK532.out 0).trans rfl; have hcz67_1 : w65.cell? ⟨gb532, 1, none⟩ = some (.int .i64 0) := (blk_cell BK532.out 1).trans rfl; have hcz67_2 : w65.cell? ⟨gb532, 2, none⟩ = some (.string (⟨#[]⟩ : ByteArray)) := (blk_cell BK532.out 2).trans rfl; have hfz67_0 := blk_frozen BK532.out 0; have hfz67_1 := blk_frozen BK532.out 1; have hfz67_2 := blk_frozen BK532.out 2))
         repeat (go_quiet (first | (go_at_call 143; (with_reducible refine (tacticianref01_Text.calls x5_2 t542 t543 t544 _ A61.out).mono ?_); rintro e w65 ⟨rfl, hb⟩; have n0_ := Aside0.mk (blk_below (g := gb530) (o := .cells #[.int .i64 a0_0, .int .i64 a0_1, .string a0_2] 61 (0, 0)) (by (with_reducible repeat (first | refine zN ?_ _ | refine zD ?_ | refine zA ?_ _)); exact BK530.out) hb); have n1_ := Aside0.mk (blk_below (g := gb531) (o := .cells #[.int .i64 a1_0, .bool a1_1] 88 (0, 0)) (by (with_reducible repeat (first | refine zN ?_ _ | refine zD ?_ | refine zA ?_ _)); exact BK531.out) hb); have n2_ := Aside0.mk (blk_below (g := gb532) (o := .cells #[.int .i64 0, .int .i64 0, .string (⟨#[]⟩ : ByteArray)] 61 (0, 0)) (by (with_reducible repeat (first | refine zN ?_ _ | refine zD ?_ | refine zA ?_ _)); exact BK532.out) hb); have n3_ := Aside0.mk (below_step (by repeat (first | (with_reducible first | exact HB.out | apply yA | apply yN | apply yD | refine below_set ?_ GE530.out | refine below_set ?_ GE531.out | refine below_set ?_ GE532.out) | exact HB.out)) hb); clear BK530; clear BK531; clear BK532; clear HB; have BK530 := n0_; have BK531 := n1_; have BK532 := n2_; have HB := n3_; clear n0_ n1_ n2_ n3_; (try clear hb); (try clear hb2); (try clear hk); (try clear hi); have hnb66 := NB532_531.out; have hnc66 := NB531_532.out; have hcz67_0 : w65.cell? ⟨gb532, 0, none⟩ = some (.int .i64 0) := (blk_cell BK532.out 0).trans rfl; have hcz67_1 : w65.cell? ⟨gb532, 1, none⟩ = some (.int .i64 0) := (blk_cell BK532.out 1).trans rfl; have hcz67_2 : w65.cell? ⟨gb532, 2, none⟩ = some (.string (⟨#[]⟩ : ByteArray)) := (blk_cell BK532.out 2).trans rfl; have hfz67_0 := blk_frozen BK532.out 0; have hfz67_1 := blk_frozen BK532.out 1; have hfz67_2 := blk_frozen BK532.out 2)); try go_wp2_with (first | (go_at_call 143; (with_reducible refine (tacticianref01_Text.calls x5_2 t542 t543 t544 _ A61.out).mono ?_); rintro e w65 ⟨rfl, hb⟩; have n0_ := Aside0.mk (blk_below (g := gb530) (o := .cells #[.int .i64 a0_0, .int .i64 a0_1, .string a0_2] 61 (0, 0)) (by (with_reducible repeat (first | refine zN ?_ _ | refine zD ?_ | refine zA ?_ _)); exact BK530.out) hb); have n1_ := Aside0.mk (blk_below (g := gb531) (o := .cells #[.int .i64 a1_0, .bool a1_1] 88 (0, 0)) (by (with_reducible repeat (first | refine zN ?_ _ | refine zD ?_ | refine zA ?_ _)); exact BK531.out) hb); have n2_ := Aside0.mk (blk_below (g := gb532) (o := .cells #[.int .i64 0, .int .i64 0, .string (⟨#[]⟩ : ByteArray)] 61 (0, 0)) (by (with_reducible repeat (first | refine zN ?_ _ | refine zD ?_ | refine zA ?_ _)); exact BK532.out) hb); have n3_ := Aside0.mk (below_step (by repeat (first | (with_reducible first | exact HB.out | apply yA | apply yN | apply yD | refine below_set ?_ GE530.out | refine below_set ?_ GE531.out | refine below_set ?_ GE532.out) | exact HB.out)) hb); clear BK530; clear BK531; clear BK532; clear HB; have BK530 := n0_; have BK531 := n1_; have BK532 := n2_; have HB := n3_; clear n0_ n1_ n2_ n3_; (try clear hb); (try clear hb2); (try clear hk); (try clear hi); have hnb66 := NB532_531.out; have hnc66 := NB531_532.out; have hcz67_0 : w65.cell? ⟨gb532, 0, none⟩ = some (.int .i64 0) := (blk_cell BK532.out 0).trans rfl; have hcz67_1 : w65.cell? ⟨gb532, 1, none⟩ = some (.int .i64 0) := (blk_cell BK532.out 1).trans rfl; have hcz67_2 : w65.cell? ⟨gb532, 2, none⟩ = some (.string (⟨#[]⟩ : ByteArray)) := (blk_cell BK532.out 2).trans rfl; have hfz67_0 := blk_frozen BK532.out 0; have hfz67_1 := blk_frozen BK532.out 1; have hfz67_2 := blk_frozen BK532.out 2)))
         refine bodyPost_ret (results_cell_row rfl _ _ gb532 61 #[.int .i64 t542, .int .i64 t543, .string t544] (0, 0) _ rfl (by (with_reducible repeat (first | refine zN ?_ _ | refine zD ?_ | refine zA ?_ _)); refine blk_put (cs := #[.int .i64 t542, .int .i64 t543, .string (⟨#[]⟩ : ByteArray)]) ?_ 2 _ rfl; (with_reducible repeat (first | refine zN ?_ _ | refine zD ?_ | refine zA ?_ _)); refine blk_put (cs := #[.int .i64 t542, .int .i64 0, .string (⟨#[]⟩ : ByteArray)]) ?_ 1 _ rfl; (with_reducible repeat (first | refine zN ?_ _ | refine zD ?_ | refine zA ?_ _)); refine blk_put (cs := #[.int .i64 0, .int .i64 0, .string (⟨#[]⟩ : ByteArray)]) ?_ 0 _ rfl; (with_reducible repeat (first | refine zN ?_ _ | refine zD ?_ | refine zA ?_ _)); exact BK532.out) Tryz.underlying61 rfl (by kernel_rfl)) rfl ?_
         exact ⟨by first | rfl | (simp [errW_none, errW_some] <;> rfl) | (simp [*, errW_none, errW_some] <;> rfl), by repeat (first | (with_reducible first | exact HB.out | apply yA | apply yN | apply yD | refine below_set ?_ GE530.out | refine below_set ?_ GE531.out | refine below_set ?_ GE532.out) | exact HB.out)⟩
     ·rw [if_neg c37] at H
      have c37b0 : (a1_0 == 3) = false := beq_eq_false_iff_ne.mpr c37
      have c37b1 : (a1_0 != 3) = true := bne_iff_ne.mpr c37
      by_cases c68 : (Int.tmod (IntKind.u64.wrap (a0_1)) 16) = 15
      ·rw [if_pos c68] at H
       have c68b0 : ((Int.tmod (IntKind.u64.wrap (a0_1)) 16) == 15) = true := beq_iff_eq.mpr c68
       have c68b1 : ((Int.tmod (IntKind.u64.wrap (a0_1)) 16) != 15) = false := bne_eq_false_iff_eq.mpr c68
       clear c68
       replace H := Option.bind_eq_some_iff.mp H
       obtain ⟨⟨t545, t546, t547⟩, A690, H⟩ := H
       replace H : (some (t545, t546, t547)) = some (r1, r2, r3) := H
       have A69 := Aside0.mk A690
       clear A690
       simp only [Option.some.injEq, Prod.mk.injEq] at H
       obtain ⟨rfl, rfl, rfl⟩ := H
       have hnb70 := NB531_530.out
       have hnc70 := NB530_531.out
       have hnb71 := NB531_532.out
       have hnc71 := NB532_531.out
       have hcz72_0 : wc.cell? ⟨gb531, 0, none⟩ = some (.int .i64 a1_0) := (blk_cell BK531.out 0).trans rfl
       have hcz72_1 : wc.cell? ⟨gb531, 1, none⟩ = some (.bool a1_1) := (blk_cell BK531.out 1).trans rfl
       have hfz72_0 := blk_frozen BK531.out 0
       have hfz72_1 := blk_frozen BK531.out 1
       have hnb73 := NB530_532.out
       have hnc73 := NB532_530.out
       have hcz74_0 : wc.cell? ⟨gb530, 0, none⟩ = some (.int .i64 a0_0) := (blk_cell BK530.out 0).trans rfl
       have hcz74_1 : wc.cell? ⟨gb530, 1, none⟩ = some (.int .i64 a0_1) := (blk_cell BK530.out 1).trans rfl
       have hcz74_2 : wc.cell? ⟨gb530, 2, none⟩ = some (.string a0_2) := (blk_cell BK530.out 2).trans rfl
       have hfz74_0 := blk_frozen BK530.out 0
       have hfz74_1 := blk_frozen BK530.out 1
       have hfz74_2 := blk_frozen BK530.out 2
       go_wp2_with (first | (go_at_call 41; (with_reducible refine (tacticianref01_Int.calls a0_1 t545 t546 t547 _ A69.out).mono ?_); rintro e w75 ⟨rfl, hb⟩; have n0_ := Aside0.mk (blk_below (g := gb530) (o := .cells #[.int .i64 a0_0, .int .i64 a0_1, .string a0_2] 61 (0, 0)) (by (with_reducible repeat (first | refine zN ?_ _ | refine zD ?_ | refine zA ?_ _)); exact BK530.out) hb); have n1_ := Aside0.mk (blk_below (g := gb531) (o := .cells #[.int .i64 a1_0, .bool a1_1] 88 (0, 0)) (by (with_reducible repeat (first | refine zN ?_ _ | refine zD ?_ | refine zA ?_ _)); exact BK531.out) hb); have n2_ := Aside0.mk (blk_below (g := gb532) (o := .cells #[.int .i64 0, .int .i64 0, .string (⟨#[]⟩ : ByteArray)] 61 (0, 0)) (by (with_reducible repeat (first | refine zN ?_ _ | refine zD ?_ | refine zA ?_ _)); exact BK532.out) hb); have n3_ := Aside0.mk (below_step (by repeat (first | (with_reducible first | exact HB.out | apply yA | apply yN | apply yD | refine below_set ?_ GE530.out | refine below_set ?_ GE531.out | refine below_set ?_ GE532.out) | exact HB.out)) hb); clear BK530; clear BK531; clear BK532; clear HB; have BK530 := n0_; have BK531 := n1_; have BK532 := n2_; have HB := n3_; clear n0_ n1_ n2_ n3_; (try clear hb); (try clear hb2); (try clear hk); (try clear hi); have hcz76_0 : w75.cell? ⟨gb532, 0, none⟩ = some (.int .i64 0) := (blk_cell BK532.out 0).trans rfl; have hcz76_1 : w75.cell? ⟨gb532, 1, none⟩ = some (.int .i64 0) := (blk_cell BK532.out 1).trans rfl; have hcz76_2 : w75.cell? ⟨gb532, 2, none⟩ = some (.string (⟨#[]⟩ : ByteArray)) := (blk_cell BK532.out 2).trans rfl; have hfz76_0 := blk_frozen BK532.out 0; have hfz76_1 := blk_frozen BK532.out 1; have hfz76_2 := blk_frozen BK532.out 2))
       repeat (go_quiet (first | (go_at_call 41; (with_reducible refine (tacticianref01_Int.calls a0_1 t545 t546 t547 _ A69.out).mono ?_); rintro e w75 ⟨rfl, hb⟩; have n0_ := Aside0.mk (blk_below (g := gb530) (o := .cells #[.int .i64 a0_0, .int .i64 a0_1, .string a0_2] 61 (0, 0)) (by (with_reducible repeat (first | refine zN ?_ _ | refine zD ?_ | refine zA ?_ _)); exact BK530.out) hb); have n1_ := Aside0.mk (blk_below (g := gb531) (o := .cells #[.int .i64 a1_0, .bool a1_1] 88 (0, 0)) (by (with_reducible repeat (first | refine zN ?_ _ | refine zD ?_ | refine zA ?_ _)); exact BK531.out) hb); have n2_ := Aside0.mk (blk_below (g := gb532) (o := .cells #[.int .i64 0, .int .i64 0, .string (⟨#[]⟩ : ByteArray)] 61 (0, 0)) (by (with_reducible repeat (first | refine zN ?_ _ | refine zD ?_ | refine zA ?_ _)); exact BK532.out) hb); have n3_ := Aside0.mk (below_step (by repeat (first | (with_reducible first | exact HB.out | apply yA | apply yN | apply yD | refine below_set ?_ GE530.out | refine below_set ?_ GE531.out | refine below_set ?_ GE532.out) | exact HB.out)) hb); clear BK530; clear BK531; clear BK532; clear HB; have BK530 := n0_; have BK531 := n1_; have BK532 := n2_; have HB := n3_; clear n0_ n1_ n2_ n3_; (try clear hb); (try clear hb2); (try clear hk); (try clear hi); have hcz76_0 : w75.cell? ⟨gb532, 0, none⟩ = some (.int .i64 0) := (blk_cell BK532.out 0).trans rfl; have hcz76_1 : w75.cell? ⟨gb532, 1, none⟩ = some (.int .i64 0) := (blk_cell BK532.out 1).trans rfl; have hcz76_2 : w75.cell? ⟨gb532, 2, none⟩ = some (.string (⟨#[]⟩ : ByteArray)) := (blk_cell BK532.out 2).trans rfl; have hfz76_0 := blk_frozen BK532.out 0; have hfz76_1 := blk_frozen BK532.out 1; have hfz76_2 := blk_frozen BK532.out 2)); try go_wp2_with (first | (go_at_call 41; (with_reducible refine (tacticianref01_Int.calls a0_1 t545 t546 t547 _ A69.out).mono ?_); rintro e w75 ⟨rfl, hb⟩; have n0_ := Aside0.mk (blk_below (g := gb530) (o := .cells #[.int .i64 a0_0, .int .i64 a0_1, .string a0_2] 61 (0, 0)) (by (with_reducible repeat (first | refine zN ?_ _ | refine zD ?_ | refine zA ?_ _)); exact BK530.out) hb); have n1_ := Aside0.mk (blk_below (g := gb531) (o := .cells #[.int .i64 a1_0, .bool a1_1] 88 (0, 0)) (by (with_reducible repeat (first | refine zN ?_ _ | refine zD ?_ | refine zA ?_ _)); exact BK531.out) hb); have n2_ := Aside0.mk (blk_below (g := gb532) (o := .cells #[.int .i64 0, .int .i64 0, .string (⟨#[]⟩ : ByteArray)] 61 (0, 0)) (by (with_reducible repeat (first | refine zN ?_ _ | refine zD ?_ | refine zA ?_ _)); exact BK532.out) hb); have n3_ := Aside0.mk (below_step (by repeat (first | (with_reducible first | exact HB.out | apply yA | apply yN | apply yD | refine below_set ?_ GE530.out | refine below_set ?_ GE531.out | refine below_set ?_ GE532.out) | exact HB.out)) hb); clear BK530; clear BK531; clear BK532; clear HB; have BK530 := n0_; have BK531 := n1_; have BK532 := n2_; have HB := n3_; clear n0_ n1_ n2_ n3_; (try clear hb); (try clear hb2); (try clear hk); (try clear hi); have hcz76_0 : w75.cell? ⟨gb532, 0, none⟩ = some (.int .i64 0) := (blk_cell BK532.out 0).trans rfl; have hcz76_1 : w75.cell? ⟨gb532, 1, none⟩ = some (.int .i64 0) := (blk_cell BK532.out 1).trans rfl; have hcz76_2 : w75.cell? ⟨gb532, 2, none⟩ = some (.string (⟨#[]⟩ : ByteArray)) := (blk_cell BK532.out 2).trans rfl; have hfz76_0 := blk_frozen BK532.out 0; have hfz76_1 := blk_frozen BK532.out 1; have hfz76_2 := blk_frozen BK532.out 2)))
       refine bodyPost_ret (results_cell_row rfl _ _ gb532 61 #[.int .i64 t545, .int .i64 t546, .string t547] (0, 0) _ rfl (by (with_reducible repeat (first | refine zN ?_ _ | refine zD ?_ | refine zA ?_ _)); refine blk_put (cs := #[.int .i64 t545, .int .i64 t546, .string (⟨#[]⟩ : ByteArray)]) ?_ 2 _ rfl; (with_reducible repeat (first | refine zN ?_ _ | refine zD ?_ | refine zA ?_ _)); refine blk_put (cs := #[.int .i64 t545, .int .i64 0, .string (⟨#[]⟩ : ByteArray)]) ?_ 1 _ rfl; (with_reducible repeat (first | refine zN ?_ _ | refine zD ?_ | refine zA ?_ _)); refine blk_put (cs := #[.int .i64 0, .int .i64 0, .string (⟨#[]⟩ : ByteArray)]) ?_ 0 _ rfl; (with_reducible repeat (first | refine zN ?_ _ | refine zD ?_ | refine zA ?_ _)); exact BK532.out) Tryz.underlying61 rfl (by kernel_rfl)) rfl ?_
       exact ⟨by first | rfl | (simp [errW_none, errW_some] <;> rfl) | (simp [*, errW_none, errW_some] <;> rfl), by repeat (first | (with_reducible first | exact HB.out | apply yA | apply yN | apply yD | refine below_set ?_ GE530.out | refine below_set ?_ GE531.out | refine below_set ?_ GE532.out) | exact HB.out)⟩
      ·rw [if_neg c68] at H
       have c68b0 : ((Int.tmod (IntKind.u64.wrap (a0_1)) 16) == 15) = false := beq_eq_false_iff_ne.mpr c68
       have c68b1 : ((Int.tmod (IntKind.u64.wrap (a0_1)) 16) != 15) = true := bne_iff_ne.mpr c68
       replace H := Option.bind_eq_some_iff.mp H
       obtain ⟨⟨t548, t549, t550⟩, A770, H⟩ := H
       replace H : (some (t548, t549, t550)) = some (r1, r2, r3) := H
       have A77 := Aside0.mk A770
       clear A770
       simp only [Option.some.injEq, Prod.mk.injEq] at H
       obtain ⟨rfl, rfl, rfl⟩ := H
       have hnb78 := NB531_530.out
       have hnc78 := NB530_531.out
       have hnb79 := NB531_532.out
       have hnc79 := NB532_531.out
       have hcz80_0 : wc.cell? ⟨gb531, 0, none⟩ = some (.int .i64 a1_0) := (blk_cell BK531.out 0).trans rfl
       have hcz80_1 : wc.cell? ⟨gb531, 1, none⟩ = some (.bool a1_1) := (blk_cell BK531.out 1).trans rfl
       have hfz80_0 := blk_frozen BK531.out 0
       have hfz80_1 := blk_frozen BK531.out 1
       have hnb81 := NB530_532.out
       have hnc81 := NB532_530.out
       have hcz82_0 : wc.cell? ⟨gb530, 0, none⟩ = some (.int .i64 a0_0) := (blk_cell BK530.out 0).trans rfl
       have hcz82_1 : wc.cell? ⟨gb530, 1, none⟩ = some (.int .i64 a0_1) := (blk_cell BK530.out 1).trans rfl
       have hcz82_2 : wc.cell? ⟨gb530, 2, none⟩ = some (.string a0_2) := (blk_cell BK530.out 2).trans rfl
       have hfz82_0 := blk_frozen BK530.out 0
       have hfz82_1 := blk_frozen BK530.out 1
       have hfz82_2 := blk_frozen BK530.out 2
       go_wp2_with (first | (go_at_call 41; (with_reducible refine (tacticianref01_Int.calls (wrap64 ((wrap64 (Int.tmod (IntKind.u64.wrap (a0_1)) 7)) - 2)) t548 t549 t550 _ A77.out).mono ?_); rintro e w83 ⟨rfl, hb⟩; have n0_ := Aside0.mk (blk_below (g := gb530) (o := .cells #[.int .i64 a0_0, .int .i64 a0_1, .string a0_2] 61 (0, 0)) (by (with_reducible repeat (first | refine zN ?_ _ | refine zD ?_ | refine zA ?_ _)); exact BK530.out) hb); have n1_ := Aside0.mk (blk_below (g := gb531) (o := .cells #[.int .i64 a1_0, .bool a1_1] 88 (0, 0)) (by (with_reducible repeat (first | refine zN ?_ _ | refine zD ?_ | refine zA ?_ _)); exact BK531.out) hb); have n2_ := Aside0.mk (blk_below (g := gb532) (o := .cells #[.int .i64 0, .int .i64 0, .string (⟨#[]⟩ : ByteArray)] 61 (0, 0)) (by (with_reducible repeat (first | refine zN ?_ _ | refine zD ?_ | refine zA ?_ _)); exact BK532.out) hb); have n3_ := Aside0.mk (below_step (by repeat (first | (with_reducible first | exact HB.out | apply yA | apply yN | apply yD | refine below_set ?_ GE530.out | refine below_set ?_ GE531.out | refine below_set ?_ GE532.out) | exact HB.out)) hb); clear BK530; clear BK531; clear BK532; clear HB; have BK530 := n0_; have BK531 := n1_; have BK532 := n2_; have HB := n3_; clear n0_ n1_ n2_ n3_; (try clear hb); (try clear hb2); (try clear hk); (try clear hi); have hcz84_0 : w83.cell? ⟨gb532, 0, none⟩ = some (.int .i64 0) := (blk_cell BK532.out 0).trans rfl; have hcz84_1 : w83.cell? ⟨gb532, 1, none⟩ = some (.int .i64 0) := (blk_cell BK532.out 1).trans rfl; have hcz84_2 : w83.cell? ⟨gb532, 2, none⟩ = some (.string (⟨#[]⟩ : ByteArray)) := (blk_cell BK532.out 2).trans rfl; have hfz84_0 := blk_frozen BK532.out 0; have hfz84_1 := blk_frozen BK532.out 1; have hfz84_2 := blk_frozen BK532.out 2))
       repeat (go_quiet (first | (go_at_call 41; (with_reducible refine (tacticianref01_Int.calls (wrap64 ((wrap64 (Int.tmod (IntKind.u64.wrap (a0_1)) 7)) - 2)) t548 t549 t550 _ A77.out).mono ?_); rintro e w83 ⟨rfl, hb⟩; have n0_ := Aside0.mk (blk_below (g := gb530) (o := .cells #[.int .i64 a0_0, .int .i64 a0_1, .string a0_2] 61 (0, 0)) (by (with_reducible repeat (first | refine zN ?_ _ | refine zD ?_ | refine zA ?_ _)); exact BK530.out) hb); have n1_ := Aside0.mk (blk_below (g := gb531) (o := .cells #[.int .i64 a1_0, .bool a1_1] 88 (0, 0)) (by (with_reducible repeat (first | refine zN ?_ _ | refine zD ?_ | refine zA ?_ _)); exact BK531.out) hb); have n2_ := Aside0.mk (blk_below (g := gb532) (o := .cells #[.int .i64 0, .int .i64 0, .string (⟨#[]⟩ : ByteArray)] 61 (0, 0)) (by (with_reducible repeat (first | refine zN ?_ _ | refine zD ?_ | refine zA ?_ _)); exact BK532.out) hb); have n3_ := Aside0.mk (below_step (by repeat (first | (with_reducible first | exact HB.out | apply yA | apply yN | apply yD | refine below_set ?_ GE530.out | refine below_set ?_ GE531.out | refine below_set ?_ GE532.out) | exact HB.out)) hb); clear BK530; clear BK531; clear BK532; clear HB; have BK530 := n0_; have BK531 := n1_; have BK532 := n2_; have HB := n3_; clear n0_ n1_ n2_ n3_; (try clear hb); (try clear hb2); (try clear hk); (try clear hi); have hcz84_0 : w83.cell? ⟨gb532, 0, none⟩ = some (.int .i64 0) := (blk_cell BK532.out 0).trans rfl; have hcz84_1 : w83.cell? ⟨gb532, 1, none⟩ = some (.int .i64 0) := (blk_cell BK532.out 1).trans rfl; have hcz84_2 : w83.cell? ⟨gb532, 2, none⟩ = some (.string (⟨#[]⟩ : ByteArray)) := (blk_cell BK532.out 2).trans rfl; have hfz84_0 := blk_frozen BK532.out 0; have hfz84_1 := blk_frozen BK532.out 1; have hfz84_2 := blk_frozen BK532.out 2)); try go_wp2_with (first | (go_at_call 41; (with_reducible refine (tacticianref01_Int.calls (wrap64 ((wrap64 (Int.tmod (IntKind.u64.wrap (a0_1)) 7)) - 2)) t548 t549 t550 _ A77.out).mono ?_); rintro e w83 ⟨rfl, hb⟩; have n0_ := Aside0.mk (blk_below (g := gb530) (o := .cells #[.int .i64 a0_0, .int .i64 a0_1, .string a0_2] 61 (0, 0)) (by (with_reducible repeat (first | refine zN ?_ _ | refine zD ?_ | refine zA ?_ _)); exact BK530.out) hb); have n1_ := Aside0.mk (blk_below (g := gb531) (o := .cells #[.int .i64 a1_0, .bool a1_1] 88 (0, 0)) (by (with_reducible repeat (first | refine zN ?_ _ | refine zD ?_ | refine zA ?_ _)); exact BK531.out) hb); have n2_ := Aside0.mk (blk_below (g := gb532) (o := .cells #[.int .i64 0, .int .i64 0, .string (⟨#[]⟩ : ByteArray)] 61 (0, 0)) (by (with_reducible repeat (first | refine zN ?_ _ | refine zD ?_ | refine zA ?_ _)); exact BK532.out) hb); have n3_ := Aside0.mk (below_step (by repeat (first | (with_reducible first | exact HB.out | apply yA | apply yN | apply yD | refine below_set ?_ GE530.out | refine below_set ?_ GE531.out | refine below_set ?_ GE532.out) | exact HB.out)) hb); clear BK530; clear BK531; clear BK532; clear HB; have BK530 := n0_; have BK531 := n1_; have BK532 := n2_; have HB := n3_; clear n0_ n1_ n2_ n3_; (try clear hb); (try clear hb2); (try clear hk); (try clear hi); have hcz84_0 : w83.cell? ⟨gb532, 0, none⟩ = some (.int .i64 0) := (blk_cell BK532.out 0).trans rfl; have hcz84_1 : w83.cell? ⟨gb532, 1, none⟩ = some (.int .i64 0) := (blk_cell BK532.out 1).trans rfl; have hcz84_2 : w83.cell? ⟨gb532, 2, none⟩ = some (.string (⟨#[]⟩ : ByteArray)) := (blk_cell BK532.out 2).trans rfl; have hfz84_0 := blk_frozen BK532.out 0; have hfz84_1 := blk_frozen BK532.out 1; have hfz84_2 := blk_frozen BK532.out 2)))
       refine bodyPost_ret (results_cell_row rfl _ _ gb532 61 #[.int .i64 t548, .int .i64 t549, .string t550] (0, 0) _ rfl (by (with_reducible repeat (first | refine zN ?_ _ | refine zD ?_ | refine zA ?_ _)); refine blk_put (cs := #[.int .i64 t548, .int .i64 t549, .string (⟨#[]⟩ : ByteArray)]) ?_ 2 _ rfl; (with_reducible repeat (first | refine zN ?_ _ | refine zD ?_ | refine zA ?_ _)); refine blk_put (cs := #[.int .i64 t548, .int .i64 0, .string (⟨#[]⟩ : ByteArray)]) ?_ 1 _ rfl; (with_reducible repeat (first | refine zN ?_ _ | refine zD ?_ | refine zA ?_ _)); refine blk_put (cs := #[.int .i64 0, .int .i64 0, .string (⟨#[]⟩ : ByteArray)]) ?_ 0 _ rfl; (with_reducible repeat (first | refine zN ?_ _ | refine zD ?_ | refine zA ?_ _)); exact BK532.out) Tryz.underlying61 rfl (by kernel_rfl)) rfl ?_
       exact ⟨by first | rfl | (simp [errW_none, errW_some] <;> rfl) | (simp [*, errW_none, errW_some] <;> rfl), by repeat (first | (with_reducible first | exact HB.out | apply yA | apply yN | apply yD | refine below_set ?_ GE530.out | refine below_set ?_ GE531.out | refine below_set ?_ GE532.out) | exact HB.out)⟩
end Go.Proofs.YtmhobbdedmjmnaaGreatDoor.Q
end
