/- The reference's own reading of numbers and values (printed) answers as the plain words say. -/
import Derived.Test.YtinhpbmoiamepaaDoorQ14
import Derived.Test.YtinhpbmoiamepaaDoorPlainRead
namespace Go.Proofs.YtinhpbmoiamepaaDoor
open Go.RowKit Go.Proofs.YtinhpbmoiamepaaDoor.Q Go.Proofs.YtinhpbmoiamepaaDoorW.PrintWords Go.Proofs.YtinhpbmoiamepaaDoorW.PrintLast Go.Proofs.YtinhpbmoiamepaaDoorW.PrintMore

/-- what the reference's loop makes of digits: turned round, and wrapped -/
def foldN (n : Int) : List UInt8 → Int
  | [] => n
  | c :: r => foldN (if 48 ≤ c.toNat ∧ c.toNat ≤ 57 then wrap64 (wrap64 (n * 10) - ((c.toNat : Int) - 48)) else n) r
theorem foldN_cons (n : Int) (c : UInt8) (r : List UInt8) : foldN n (c :: r) = foldN (if 48 ≤ c.toNat ∧ c.toNat ≤ 57 then wrap64 (wrap64 (n * 10) - ((c.toNat : Int) - 48)) else n) r := rfl
/-- what the reference says of a number -/
def numR (s : ByteArray) : Int × Bool :=
  let n := foldN 0 s.data.toList
  if ofL (Lib.itoa n) = s then (n, true) else if n = -9223372036854775808 then (0, false) else if ofL (Lib.itoa (wrap64 (-n))) = s then (wrap64 (-n), true) else (0, false)
theorem wrap_in (n : Int) : inI64 (wrap64 n) = true := inI64_mk (by unfold wrap64; omega) (by unfold wrap64; omega)
theorem foldN_in : ∀ (l : List UInt8) (n : Int), inI64 n = true → inI64 (foldN n l) = true := by
  intro l
  induction l with
  | nil => intro n h; exact h
  | cons c r ih =>
    intro n h
    unfold foldN
    split
    · exact ih _ (wrap_in _)
    · exact ih _ h
theorem toList_eq_iff (a b : ByteArray) : a.toList = b.toList ↔ a = b := by
  rw [ByteArray.toList_eq, ByteArray.toList_eq]
  exact ⟨fun h => ba_ext h, fun h => by rw [h]⟩
theorem number_loop (s : ByteArray) (hs : s.size ≤ 1000) : ∀ (d i k : Nat) (n : Int), inI64 n = true → i + d = s.size → d < k →
    foldN n (s.data.toList.drop i) = foldN 0 s.data.toList → tacticianref01_Number.l0 k s n (i : Int) = some (numR s) := by
  intro d
  induction d with
  | zero =>
    intro i k n hn hi hk hf
    obtain ⟨k, rfl⟩ : ∃ m, k = m + 1 := ⟨k - 1, by omega⟩
    rw [List.drop_of_length_le (by rw [Array.length_toList]; exact Nat.le_of_eq hi.symm)] at hf
    have hf : n = foldN 0 s.data.toList := hf
    simp only [tacticianref01_Number.l0, tacticianref01_Digits_s.f, toList_eq_iff]
    rw [if_neg (by omega), if_pos hn, if_pos (wrap_in _)]
    simp only [Option.bind_some]
    unfold numR
    simp only [← hf]
    split
    · rfl
    · split
      · rfl
      · split <;> rfl
  | succ d ih =>
    intro i k n hn hi hk hf
    obtain ⟨k, rfl⟩ : ∃ m, k = m + 1 := ⟨k - 1, by omega⟩
    have hlt : i < s.size := by omega
    rw [List.drop_eq_getElem_cons (by rw [Array.length_toList]; exact hlt)] at hf
    have hb := bt_get s i hlt
    generalize s.data.toList[i]'(by rw [Array.length_toList]; exact hlt) = c at hf hb
    have hc : c.toNat < 256 := c.toNat_lt
    simp only [tacticianref01_Number.l0]
    rw [if_pos (by omega), if_pos (by omega), hb, wrap_small (n := (i : Int) + 1) (by omega) (by omega), show ((i : Int) + 1) = ((i + 1 : Nat) : Int) by omega]
    rw [foldN_cons] at hf
    by_cases h1 : 48 ≤ c.toNat
    · by_cases h2 : c.toNat ≤ 57
      · rw [if_pos (by omega), if_pos (by omega), show ((c.toNat : Int) - 48) % 256 = (c.toNat : Int) - 48 by omega]
        rw [if_pos ⟨h1, h2⟩] at hf
        exact ih (i + 1) k _ (wrap_in _) (by omega) (by omega) hf
      · rw [if_pos (by omega), if_neg (by omega)]
        rw [if_neg (fun z => h2 z.2)] at hf
        exact ih (i + 1) k _ hn (by omega) (by omega) hf
    · rw [if_neg (by omega)]
      rw [if_neg (fun z => h1 z.1)] at hf
      exact ih (i + 1) k _ hn (by omega) (by omega) hf
theorem number_at (s : ByteArray) (hs : s.size ≤ 1000) (k : Nat) (hk : 1002 < k) : tacticianref01_Number.f k s = some (if s.size = 0 ∨ 20 < s.size then (0, false) else numR s) := by
  obtain ⟨k, rfl⟩ : ∃ m, k = m + 1 := ⟨k - 1, by omega⟩
  have ej : ∀ b, tacticianref01_Number.j0 (k + 1) s b = if b = true then some (0, false) else tacticianref01_Number.l0 k s 0 0 := by intro b; simp only [tacticianref01_Number.j0]
  unfold tacticianref01_Number.f
  rw [ej, ej]
  by_cases h0 : s.size = 0
  · rw [if_pos (show (s.size : Int) = 0 by omega), if_pos rfl, if_pos (Or.inl h0 : s.size = 0 ∨ 20 < s.size)]
  · rw [if_neg (show ¬ (s.size : Int) = 0 by omega)]
    by_cases h1 : 20 < s.size
    · rw [show decide ((s.size : Int) > 20) = true from decide_eq_true (by omega), if_pos rfl, if_pos (Or.inr h1 : s.size = 0 ∨ 20 < s.size)]
    · rw [show decide ((s.size : Int) > 20) = false from decide_eq_false (by omega), if_neg (by simp), if_neg (show ¬ (s.size = 0 ∨ 20 < s.size) by omega)]
      exact number_loop s hs s.size 0 k 0 (by decide) (by omega) (by omega) (by simp)

/-- digits that are a number's own -/
theorem foldN_digits (u : Nat) : ∀ n : Int, u ≤ 9223372036854775808 → (∀ l, n = 0 → foldN n (Lib.decDigits u ++ l) = foldN (-(u : Int)) l) := by
  induction u using Nat.strongRecOn with
  | _ u ih =>
    intro n hu l hn
    subst hn
    have hd : ∀ z, z < 10 → (UInt8.ofNat (48 + z)).toNat = 48 + z := by intro z hz; rw [UInt8.toNat_ofNat']; omega
    rw [Lib.decDigits]
    split
    · rename_i h
      simp only [List.cons_append, List.nil_append, foldN]
      rw [hd u h, if_pos (by omega)]
      congr 1
      unfold wrap64
      omega
    · rename_i h
      rw [List.append_assoc, ih (u / 10) (by omega) 0 (by omega) _ rfl]
      simp only [List.cons_append, List.nil_append, foldN]
      rw [hd _ (by omega), if_pos (by omega)]
      congr 1
      unfold wrap64
      omega
theorem foldN_itoa (m : Int) (h : inI64 m = true) : foldN 0 (Lib.itoa m) = -(m.natAbs : Int) := by
  obtain ⟨h0, h1⟩ := inI64_bd h
  rcases itoa_cases m with ⟨_, e⟩ | ⟨_, e⟩
  · rw [e]
    have : foldN 0 (45 :: Lib.decDigits m.natAbs) = foldN 0 (Lib.decDigits m.natAbs) := by
      rw [foldN_cons]
      rw [if_neg (by decide : ¬ (48 ≤ (45 : UInt8).toNat ∧ (45 : UInt8).toNat ≤ 57))]
    rw [this]
    have := foldN_digits m.natAbs 0 (by omega) [] rfl
    rw [List.append_nil] at this
    exact this
  · rw [e]
    have := foldN_digits m.natAbs 0 (by omega) [] rfl
    rw [List.append_nil] at this
    exact this
theorem digits_len (u : Nat) : ∀ d, u < 10 ^ (d + 1) → (Lib.decDigits u).length ≤ d + 1 := by
  induction u using Nat.strongRecOn with
  | _ u ih =>
    intro d hu
    rw [Lib.decDigits]
    split
    · simp
    · rename_i h
      cases d with
      | zero => simp at hu; omega
      | succ d =>
        have := ih (u / 10) (by omega) d (by rw [Nat.pow_succ] at hu; omega)
        simp only [List.length_append, List.length_cons, List.length_nil]
        omega
theorem itoa_len (m : Int) (h : inI64 m = true) : 0 < (Lib.itoa m).length ∧ (Lib.itoa m).length ≤ 20 := by
  obtain ⟨h0, h1⟩ := inI64_bd h
  have hp : (10 : Nat) ^ (18 + 1) = 10000000000000000000 := rfl
  have hl := digits_len m.natAbs 18 (by rw [hp]; omega)
  have hne : 0 < (Lib.decDigits m.natAbs).length := List.length_pos_iff.2 (decDigits_ne _)
  rcases itoa_cases m with ⟨_, e⟩ | ⟨_, e⟩
  · rw [e]; simp only [List.length_cons]; omega
  · rw [e]; omega
theorem itoa_inj {m n : Int} (hm : inI64 m = true) (hn : inI64 n = true) (h : ofL (Lib.itoa m) = ofL (Lib.itoa n)) : m = n :=
  (writ_inj (a := 1) (a' := 1) (b := m) (b' := n) (c := ⟨#[]⟩) (c' := ⟨#[]⟩) (by unfold okV; rw [hm]; rfl) (by unfold okV; rw [hn]; rfl) h).2.1
theorem numR_true {s : ByteArray} {n : Int} (h : numR s = (n, true)) : inI64 n = true ∧ ofL (Lib.itoa n) = s := by
  unfold numR at h
  simp only at h
  have hin : inI64 (foldN 0 s.data.toList) = true := foldN_in _ _ (by decide)
  split at h
  · rename_i e
    obtain ⟨rfl, _⟩ := Prod.mk.inj h
    exact ⟨hin, e⟩
  · split at h
    · cases h
    · split at h
      · rename_i e
        obtain ⟨rfl, _⟩ := Prod.mk.inj h
        exact ⟨wrap_in _, e⟩
      · cases h
theorem numR_of {s : ByteArray} {m : Int} (hm : inI64 m = true) (h : ofL (Lib.itoa m) = s) : numR s = (m, true) := by
  obtain ⟨h0, h1⟩ := inI64_bd hm
  have hd : s.data.toList = Lib.itoa m := by rw [← h, ofL_data]
  have hf : foldN 0 s.data.toList = -(m.natAbs : Int) := by rw [hd]; exact foldN_itoa m hm
  have hin : inI64 (-(m.natAbs : Int)) = true := by rw [← hf]; exact foldN_in _ _ (by decide)
  unfold numR
  simp only [hf]
  by_cases hneg : m ≤ 0
  · have e : -(m.natAbs : Int) = m := by omega
    rw [e, if_pos h]
  · have e : wrap64 (-(-(m.natAbs : Int))) = m := by unfold wrap64; omega
    rw [if_neg (fun z => by have := itoa_inj hin hm (z.trans h.symm); omega), if_neg (by omega), e, if_pos h]
/-- the reference's number, at one place -/
theorem number_spec (s : ByteArray) (hs : s.size ≤ 1000) (k : Nat) (hk : 1002 < k) : ∃ n b, tacticianref01_Number.f k s = some (n, b) ∧ (b = true → inI64 n = true ∧ ofL (Lib.itoa n) = s) ∧ (∀ m, inI64 m = true → ofL (Lib.itoa m) = s → n = m ∧ b = true) := by
  rw [number_at s hs k hk]
  by_cases h : s.size = 0 ∨ 20 < s.size
  · rw [if_pos h]
    refine ⟨0, false, rfl, fun z => (by cases z), fun m hm e => ?_⟩
    have := itoa_len m hm
    have e2 : s.size = (Lib.itoa m).length := by rw [← e, ofL_size]
    omega
  · rw [if_neg h]
    cases hr : numR s with
    | mk n b =>
      refine ⟨n, b, rfl, fun z => ?_, fun m hm e => ?_⟩
      · subst z; exact numR_true hr
      · rw [numR_of hm e] at hr
        obtain ⟨rfl, rfl⟩ := Prod.mk.inj hr
        exact ⟨rfl, rfl⟩

/-! the reference's reading of a value -/
def okT (t x : ByteArray) : Bool := isB 3 0 t && (writL 3 0 t == x.data.toList)
theorem okV_text (t : ByteArray) (h : isB 3 0 t = true) : okV 3 0 t = true := by unfold okV; rw [h]; rfl
theorem scan_end (x acc : ByteArray) (i : Int) (k : Nat) : tacticianref01_Parse.j3 (k + 1) x acc i false = some (3, 0, acc, okT acc x) := by
  simp only [tacticianref01_Parse.j3, tacticianref01_Text.f, tacticianref01_Right_s.f, tacticianref01_String_s.f, Option.bind_some]
  unfold okT
  rw [if_neg (by simp)]
  by_cases h : isB 3 0 acc = true
  · rw [if_pos h, if_pos (okV_text acc h), h]
    simp only [Option.bind_some, ByteArray.toList_eq, Bool.true_and]
    unfold writ
    rw [ofL_data]
  · rw [if_neg h]
    simp [h]
theorem ext_one (x : ByteArray) (i : Nat) (h : i < x.size) : x.extract ((i : Int)).toNat ((i : Int) + 1).toNat = ofL [x.data.toList[i]'(by rw [Array.length_toList]; exact h)] := by
  have hlt' : i < x.data.toList.length := by rw [Array.length_toList]; exact h
  apply ba_ext
  rw [ofL_data, ByteArray.data_extract, Array.toList_extract, show ((i : Int)).toNat = i by omega, show ((i : Int) + 1).toNat = i + 1 by omega]
  simp only [List.extract_eq_take_drop, Nat.add_sub_cancel_left]
  rw [List.drop_eq_getElem_cons hlt']
  rfl
theorem scan_step (x acc : ByteArray) (i k : Nat) (hx : x.size ≤ 1000) (ha : acc.size ≤ 1000) (h : i < x.size) :
    tacticianref01_Parse.j3 (k + 1) x acc (i : Int) true = if bt x (i : Int) = 39 then tacticianref01_Parse.l0 k x (acc ++ ofL [x.data.toList[i]'(by rw [Array.length_toList]; exact h)]) ((i + 2 : Nat) : Int) else tacticianref01_Parse.l0 k x (acc ++ ofL [x.data.toList[i]'(by rw [Array.length_toList]; exact h)]) ((i + 1 : Nat) : Int) := by
  have e1 : wrap64 ((i : Int) + 1) = (i : Int) + 1 := wrap_small (by omega) (by omega)
  have e2 : wrap64 ((i : Int) + 1 + 1) = ((i + 2 : Nat) : Int) := by rw [wrap_small (by omega) (by omega)]; omega
  have e3 : ((i : Int) + 1) = ((i + 1 : Nat) : Int) := by omega
  have hs : (ofL [x.data.toList[i]'(by rw [Array.length_toList]; exact h)]).size = 1 := by rw [ofL_size]; rfl
  simp only [tacticianref01_Parse.j3]
  rw [e1, ext_one x i h, if_pos trivial, if_pos (by omega), if_pos (by omega), if_pos (by omega), if_pos (by rw [hs]; omega), if_pos (by omega), e2]
  rw [e3]
theorem scan_total (x : ByteArray) (hx : x.size ≤ 1000) (h2 : 1 ≤ x.size) : ∀ (d i k : Nat) (acc : ByteArray), x.size + 1 ≤ i + d → acc.size ≤ i → i ≤ x.size + 1 → 2 * d + 2 < k → ∃ t, tacticianref01_Parse.l0 k x acc (i : Int) = some (3, 0, t, okT t x) := by
  intro d
  induction d using Nat.strongRecOn with
  | _ d ih =>
    intro i k acc hi ha hx1 hk
    obtain ⟨k, rfl⟩ : ∃ m, k = m + 2 := ⟨k - 2, by omega⟩
    simp only [tacticianref01_Parse.l0]
    rw [wrap_small (n := (x.size : Int) - 1) (by omega) (by omega)]
    by_cases hlt : i < x.size - 1
    · rw [if_pos (by omega)]
      by_cases h200 : acc.size ≤ 200
      · have hlt2 : i < x.size := by omega
        have hs : (acc ++ ofL [x.data.toList[i]'(by rw [Array.length_toList]; exact hlt2)]).size = acc.size + 1 := by rw [ByteArray.size_append, ofL_size]; rfl
        rw [show decide ((acc.size : Int) ≤ 200) = true by simp; omega, scan_step x acc i k hx (by omega) hlt2]
        split
        · exact ih (d - 2) (by omega) (i + 2) k _ (by omega) (by rw [hs]; omega) (by omega) (by omega)
        · exact ih (d - 1) (by omega) (i + 1) k _ (by omega) (by rw [hs]; omega) (by omega) (by omega)
      · rw [show decide ((acc.size : Int) ≤ 200) = false by simp; omega]
        exact ⟨acc, scan_end x acc _ k⟩
    · rw [if_neg (by omega)]
      exact ⟨acc, scan_end x acc _ k⟩
theorem dbl_append (a b : List UInt8) : dbl (a ++ b) = dbl a ++ dbl b := by
  induction a with
  | nil => rfl
  | cons c r ih => simp only [List.cons_append, dbl]; split <;> simp [ih]
theorem scan_own (t x : ByteArray) (ht : t.size ≤ 200) (hx : x.data.toList = 39 :: (dbl t.data.toList ++ [39])) : ∀ (rest pre : List UInt8) (k : Nat), t.data.toList = pre ++ rest → 2 * rest.length + 2 < k →
    tacticianref01_Parse.l0 k x (ofL pre) ((1 + (dbl pre).length : Nat) : Int) = some (3, 0, t, okT t x) := by
  have hl : x.data.toList.length = x.size := Array.length_toList
  have hsz : x.size = (dbl t.data.toList).length + 2 := by rw [← hl, hx]; simp
  have hd := dbl_le t.data.toList
  have htl : t.data.toList.length = t.size := Array.length_toList
  have hx1 : x.size ≤ 1000 := by rw [hsz]; omega
  intro rest
  induction rest with
  | nil =>
    intro pre k hp hk
    obtain ⟨k, rfl⟩ : ∃ m, k = m + 2 := ⟨k - 2, by omega⟩
    rw [List.append_nil] at hp
    subst hp
    simp only [tacticianref01_Parse.l0]
    rw [wrap_small (n := (x.size : Int) - 1) (by omega) (by omega), if_neg (by omega), scan_end, ofL_toList]
  | cons c r ih =>
    intro pre k hp hk
    obtain ⟨k, rfl⟩ : ∃ m, k = m + 2 := ⟨k - 2, by omega⟩
    have hdp : dbl t.data.toList = dbl pre ++ dbl (c :: r) := by rw [hp, dbl_append]
    have hge : 1 ≤ (dbl (c :: r)).length := by simp only [dbl]; split <;> simp
    have hlen : (dbl t.data.toList).length = (dbl pre).length + (dbl (c :: r)).length := by rw [hdp, List.length_append]
    have hpre : pre.length ≤ 200 := by have : t.data.toList.length = pre.length + (c :: r).length := by rw [hp, List.length_append]
                                       omega
    have hlt : 1 + (dbl pre).length < x.size := by omega
    have hget : x.data.toList[1 + (dbl pre).length]'(by rw [hl]; exact hlt) = c := by
      have e : x.data.toList[1 + (dbl pre).length]? = some c := by
        rw [hx, Nat.add_comm 1, List.getElem?_cons_succ, hdp, List.append_assoc, List.getElem?_append_right (Nat.le_refl _), Nat.sub_self]
        simp only [dbl]
        split
        · rename_i h; subst h; rfl
        · rfl
      exact (List.getElem?_eq_some_iff.1 e).2
    have hb := bt_get x (1 + (dbl pre).length) hlt
    rw [hget] at hb
    have hap : ofL pre ++ ofL [c] = ofL (pre ++ [c]) := by apply ba_ext; rw [append_data, ofL_data, ofL_data, ofL_data]
    have hnext := ih (pre ++ [c]) k (by rw [hp]; simp) (by simp only [List.length_cons] at hk; omega)
    simp only [tacticianref01_Parse.l0]
    rw [wrap_small (n := (x.size : Int) - 1) (by omega) (by omega), if_pos (by omega), ofL_size, show decide ((pre.length : Int) ≤ 200) = true by simp; omega,
      scan_step x (ofL pre) (1 + (dbl pre).length) k hx1 (by rw [ofL_size]; omega) hlt, hget, hb, hap]
    by_cases hc : c = 39
    · have e : (dbl (pre ++ [c])).length = (dbl pre).length + 2 := by rw [dbl_append, hc]; simp [dbl]
      rw [e] at hnext
      rw [if_pos (by rw [hc]; rfl), show 1 + (dbl pre).length + 2 = 1 + ((dbl pre).length + 2) by omega]
      exact hnext
    · have e : (dbl (pre ++ [c])).length = (dbl pre).length + 1 := by rw [dbl_append]; simp [dbl, hc]
      rw [e] at hnext
      rw [if_neg (by intro z; apply hc; apply UInt8.toNat_inj.1; show c.toNat = 39; omega), show 1 + (dbl pre).length + 1 = 1 + ((dbl pre).length + 1) by omega]
      exact hnext
theorem okT_true {t x : ByteArray} (h : okT t x = true) : okV 3 0 t = true ∧ writ 3 0 t = x := by
  unfold okT at h
  rw [Bool.and_eq_true, beq_iff_eq] at h
  exact ⟨okV_text t h.1, by apply ba_ext; unfold writ; rw [ofL_data]; exact h.2⟩
def isText (s : ByteArray) : Bool := bt s 0 == 39 && decide (0 < s.size)
/-- the reference's reading, whatever the string -/
theorem parse_spec (s : ByteArray) (hs : s.size ≤ 1000) (k : Nat) (hk : 3000 < k) : ∃ a b c ok, tacticianref01_Parse.f k s = some (a, b, c, ok) ∧ (ok = true → okV a b c = true ∧ writ a b c = s) ∧
    (∀ a' b' c', okV a' b' c' = true → writ a' b' c' = s → a = a' ∧ b = b' ∧ c = c' ∧ ok = true) := by
  have own : ∀ a b c, okV a b c = true → writ a b c = s → tacticianref01_Parse.f k s = some (a, b, c, true) → ∃ a b c ok, tacticianref01_Parse.f k s = some (a, b, c, ok) ∧ (ok = true → okV a b c = true ∧ writ a b c = s) ∧ (∀ a' b' c', okV a' b' c' = true → writ a' b' c' = s → a = a' ∧ b = b' ∧ c = c' ∧ ok = true) := by
    intro a b c h1 h2 h3
    exact ⟨a, b, c, true, h3, fun _ => ⟨h1, h2⟩, fun a' b' c' h4 h5 => let z := writ_inj h1 h4 (h2.trans h5.symm); ⟨z.1, z.2.1, z.2.2, rfl⟩⟩
  have strEq : ∀ {a b : Int} {c : ByteArray} {l : List UInt8}, s.data.toList = l → writL a b c = l → writ a b c = s := by
    intro a b c l h1 h2; apply ba_ext; unfold writ; rw [ofL_data, h2, h1]
  obtain ⟨k, rfl⟩ : ∃ m, k = m + 2 := ⟨k - 2, by omega⟩
  by_cases h1 : s.data.toList = [110, 117, 108, 108]
  · exact own 0 0 ⟨#[]⟩ rfl (strEq h1 rfl) (by unfold tacticianref01_Parse.f; rw [ByteArray.toList_eq, if_pos h1])
  by_cases h2 : s.data.toList = [116, 114, 117, 101]
  · refine own 2 1 ⟨#[]⟩ rfl (strEq h2 rfl) ?_
    unfold tacticianref01_Parse.f
    rw [ByteArray.toList_eq, if_neg h1, if_pos h2]
    simp only [tacticianref01_Parse.j0, ByteArray.toList_eq, h2]
    rfl
  by_cases h3 : s.data.toList = [102, 97, 108, 115, 101]
  · refine own 2 0 ⟨#[]⟩ rfl (strEq h3 rfl) ?_
    unfold tacticianref01_Parse.f
    rw [ByteArray.toList_eq, if_neg h1, if_neg h2, h3]
    simp only [tacticianref01_Parse.j0, ByteArray.toList_eq, h3]
    rfl
  have hf : (s.data.toList == ([102, 97, 108, 115, 101] : List UInt8)) = false := by simpa using h3
  -- what is left: a text or a number
  have hstart : tacticianref01_Parse.f (k + 2) s = tacticianref01_Parse.j1 (k + 1) s (isText s) := by
    unfold tacticianref01_Parse.f
    rw [ByteArray.toList_eq, if_neg h1, if_neg h2, hf]
    simp only [tacticianref01_Parse.j0, Bool.false_eq_true, if_false]
    unfold isText
    by_cases h0 : 0 < s.size
    · rw [if_pos (by omega), if_pos (by omega)]; simp [h0]
    · rw [if_neg (by omega)]; simp [h0]
  rw [hstart]
  cases ht : isText s with
  | true =>
    have hpos : 0 < s.size := by unfold isText at ht; rw [Bool.and_eq_true, decide_eq_true_eq] at ht; exact ht.2
    have h39 : bt s 0 = 39 := by unfold isText at ht; rw [Bool.and_eq_true, beq_iff_eq] at ht; exact ht.1
    obtain ⟨t, hr⟩ := scan_total s hs hpos (s.size + 1) 1 k ⟨#[]⟩ (by omega) (by decide) (by omega) (by omega)
    have hj : tacticianref01_Parse.j1 (k + 1) s true = some (3, 0, t, okT t s) := by
      simp only [tacticianref01_Parse.j1]
      rw [if_pos trivial]
      exact hr
    refine ⟨3, 0, t, okT t s, hj, fun h => okT_true h, fun a' b' c' h4 h5 => ?_⟩
    rcases okV_cases h4 with ⟨rfl, rfl, rfl⟩ | ⟨rfl, hi, rfl⟩ | ⟨rfl, rfl | rfl, rfl⟩ | ⟨rfl, rfl, hs', hp⟩
    · exact absurd (by rw [← h5]; rfl) h1
    · obtain ⟨d, r, e, hdig⟩ := itoa_head b'
      have hd : s.data.toList = Lib.itoa b' := by rw [← h5]; unfold writ; rw [ofL_data]; rfl
      have hb := bt_get s 0 hpos
      have k0 : s.data.toList[0]'(by rw [Array.length_toList]; exact hpos) = d := by simp [hd, e]
      rw [k0] at hb
      have : (d.toNat : Int) = 39 := hb.symm.trans h39
      omega
    · exact absurd (by rw [← h5]; rfl) h3
    · exact absurd (by rw [← h5]; rfl) h2
    · have hd : s.data.toList = 39 :: (dbl c'.data.toList ++ [39]) := by rw [← h5]; unfold writ; rw [ofL_data]; rfl
      have := scan_own c' s hs' hd c'.data.toList [] k (by simp) (by have : c'.data.toList.length = c'.size := Array.length_toList
                                                                     omega)
      have e2 := hr.symm.trans this
      simp only [Option.some.injEq, Prod.mk.injEq, true_and] at e2
      have hok : okT c' s = true := by
        unfold okT
        unfold okV at h4
        rw [Bool.and_eq_true] at h4
        rw [h4.1, hd]
        simp [writL]
      exact ⟨rfl, rfl, e2.1, by rw [e2.1]; exact hok⟩
  | false =>
    obtain ⟨n, b, hn, hb1, hb2⟩ := number_spec s hs k (by omega)
    have hj : tacticianref01_Parse.j1 (k + 1) s false = some (1, n, ⟨#[]⟩, b) := by
      simp only [tacticianref01_Parse.j1, tacticianref01_Int.f]
      rw [if_neg (by simp), hn]
      rfl
    refine ⟨1, n, ⟨#[]⟩, b, hj, fun h => ?_, fun a' b' c' h4 h5 => ?_⟩
    · obtain ⟨z1, z2⟩ := hb1 h
      exact ⟨by unfold okV; rw [z1]; rfl, z2⟩
    · rcases okV_cases h4 with ⟨rfl, rfl, rfl⟩ | ⟨rfl, hi, rfl⟩ | ⟨rfl, rfl | rfl, rfl⟩ | ⟨rfl, rfl, hs', hp⟩
      · exact absurd (by rw [← h5]; rfl) h1
      · obtain ⟨z1, z2⟩ := hb2 b' hi h5
        exact ⟨rfl, z1, rfl, z2⟩
      · exact absurd (by rw [← h5]; rfl) h3
      · exact absurd (by rw [← h5]; rfl) h2
      · have hd : s.data.toList = 39 :: (dbl c'.data.toList ++ [39]) := by rw [← h5]; unfold writ; rw [ofL_data]; rfl
        have hpos : 0 < s.size := by rw [show s.size = s.data.toList.length from Array.length_toList.symm, hd]; simp
        have hb := bt_get s 0 hpos
        have k0 : s.data.toList[0]'(by rw [Array.length_toList]; exact hpos) = 39 := by simp [hd]
        rw [k0] at hb
        unfold isText at ht
        rw [show bt s 0 = ((39 : UInt8).toNat : Int) from hb] at ht
        simp [hpos] at ht
/-- so it reads just what the program's own words read -/
theorem parse_readC (s : ByteArray) (hs : s.size ≤ 1000) (k : Nat) (hk : 3000 < k) : ∃ a b c ok, tacticianref01_Parse.f k s = some (a, b, c, ok) ∧ readC s = if ok = true then (a, b, c, true) else (0, 0, ⟨#[]⟩, false) := by
  obtain ⟨a, b, c, ok, hf, h1, h2⟩ := parse_spec s hs k hk
  refine ⟨a, b, c, ok, hf, ?_⟩
  cases ok with
  | true =>
    obtain ⟨z1, z2⟩ := h1 rfl
    rw [if_pos rfl, readC_of z1 z2]
  | false =>
    rw [if_neg (by simp)]
    cases hr : readC s with
    | mk a' r =>
      obtain ⟨b', c', o⟩ := r
      cases o with
      | true =>
        obtain ⟨z1, z2⟩ := readC_true s hr
        have := (h2 a' b' c' z1 z2).2.2.2
        cases this
      | false =>
        obtain ⟨rfl, rfl, rfl⟩ := readC_false s hr
        rfl
end Go.Proofs.YtinhpbmoiamepaaDoor
