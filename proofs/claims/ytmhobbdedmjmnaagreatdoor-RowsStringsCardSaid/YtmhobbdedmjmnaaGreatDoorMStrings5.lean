/- Lemmas for the claim: contracts of functions and facts about what they compute, part 6 (texts put together, and cut down to what is used, by a program of ours). -/
import Derived.Test.YtmhobbdedmjmnaaGreatDoorMStrings4
section
namespace Go.Proofs.YtmhobbdedmjmnaaGreatDoor.Q
open Go.RowKit Go.Proofs.YtmhobbdedmjmnaaGreatDoorW.PrintWords Go.Proofs.YtmhobbdedmjmnaaGreatDoorW.PrintLast Go.Proofs.YtmhobbdedmjmnaaGreatDoorW.PrintMore
attribute [local go_sem] max2_int min2_int max_two min_two max_three min_three max_four min_four
set_option linter.unusedVariables false
set_option linter.unusedSimpArgs false
section
open Go.Sort
variable {ops : Array Oper} {rest : List Oper} {o : Oper} {a : Act} {Q : Exit → Act → World → Prop}
theorem append_int {W : World} {base : Nat} (hgd : o.guard = none) (s x : Operand) (ho : o.op = .call { callee := .builtin .append, args := #[s, x], argTypes := #[34, 34] })
    (v : Value) (xs : List Int) (p : Int) (hs : a.eval s = v) (hx : a.eval x = .slice (some ⟨W.heap.size, 0, none⟩) 1 1)
    (HO : Kd.R (Kd.int .i64) 3 W base (fun _ => True) v xs) (hbase : base ≤ W.heap.size) (hl : xs.length ≤ 5000000)
    (h : ∀ v1 w1, Kd.R (Kd.int .i64) 3 w1 base (fun _ => True) v1 (xs ++ [p]) → Below base W w1 → wpList Tryz.prog ops Q rest (a.put o.dst v1) w1) :
    wpList Tryz.prog ops Q (o :: rest) a (W.alloc (.cells #[.int .i64 p] 3)) := by
  refine Kd.R_append (Kd.int .i64) (w0 := W) base hgd s x 34 3 (.int .i64 0) 8 ho Tryz.underlying34 (by kernel_rfl) rfl (by decide) (by omega) v xs p [.int .i64 p] (fun _ => True) (fun _ => False) hs hx rfl (fun _ hk => hk.elim) (fun _ _ => trivial) HO (Below.refl _ _) hbase (by omega) (fun v1 w1 h1 h2 _ _ => h v1 w1 h1 h2)
theorem sortKeys.calls (gb : Nat) (K : Option Addr) (ck : Nat) (ks : List KK) (v : Value) (xs : List (List V)) (w0 w : World) (hb : Below w0.heap.size w0 w) (hbox : w.heap[gb]? = some (.cells #[.slice K ks.length ck] 32 (0, 0))) (hK : Kd.C k36 w0 K ks.length ks)
    (h : Kd.S (Kd.slice 61 k61) 40 w w0.heap.size (fun _ => True) v xs) (hl : okR xs = true) (lk : ks.length ≤ 1000000) (hp : placesB xs (ks.map fun k => k.f0) = true) :
    Calls Tryz.prog 60 #[v, .func (.func 100) #[] #[.pointer (some ⟨gb, 0, none⟩)]] w fun e' w' => e' = .returned (.tuple #[]) ∧ Kd.S (Kd.slice 61 k61) 40 w' w0.heap.size (fun _ => True) v (sortBy (cfK (keysOf ks)) xs) ∧ w.grownBy w' v.ownBlock ∧ (∀ (B : Nat) (w1 : World), B ≤ w0.heap.size → Below B w1 w → B ≤ w.heap.size → Below B w1 w') := by
  have hl' := okR_spec hl
  have eg : ∀ args w, (callFunc 100 args).run Tryz.prog w = .ok (.enter 100 args) w := enters_of Tryz.func100 (by kernel_rfl) rfl
  have hk36 : Kd.Heap k36 := Kd.heap_iso _ (Kd.heap_pair (Kd.heap_int _) Kd.heap_bool)
  have hin : ∀ x ∈ xs, ∀ k ∈ ks, 0 ≤ k.f0 ∧ k.f0 < (x.length : Int) := fun x hx k hk => by
    unfold placesB at hp
    have h1 : (xs.any fun x => (ks.map fun k => k.f0).any fun c => decide (c < 0) || decide ((x.length : Int) ≤ c)) = false := by simpa using hp
    have h2 := (List.any_eq_false.1 h1) x hx
    have h3 : ((ks.map fun k => k.f0).any fun c => decide (c < 0) || decide ((x.length : Int) ≤ c)) = false := by simpa using h2
    have h4 := (List.any_eq_false.1 h3) k.f0 (List.mem_map.2 ⟨k, hk, rfl⟩)
    rw [Bool.not_eq_true, Bool.or_eq_false_iff] at h4
    have h5 := of_decide_eq_false h4.1
    have h6 := of_decide_eq_false h4.2
    omega
  have hc := sortS Tryz.sortR (Kd.slice 61 k61) rfl 40 (cfK (keysOf ks)) (cfK_tc _) 100 #[.pointer (some ⟨gb, 0, none⟩)] eg v xs w w0.heap.size _ h (by have := hl'.1; omega) (fun x y cx cy W hx hy hMx hMy hW => by
    obtain ⟨A0, c0, rfl, _, hC0⟩ := M_row_reads hMx
    obtain ⟨A1, c1, rfl, _, hC1⟩ := M_row_reads hMy
    have hcell : W.heap[gb]? = _ := (hW gb (blk_lt hbox) (Kd.S_ne h hbox (by decide))).trans hbox
    have hKW : Kd.C k36 W K ks.length ks := hk36.C (fun k hk => (hW k (Nat.lt_of_lt_of_le hk hb.size) (fun e => by have := Kd.S_base h k e.symm; omega)).trans (hb.block k hk)) hK
    exact byKeys.calls gb K ck ks A0 A1 c0 c1 x y W (blk_cell hcell 0) hKW hC0 hC1 (by have := hl'.2 x hx; omega) (by have := hl'.2 y hy; omega) (by omega) (fun k hk => ⟨(hin x hx k hk).1, (hin x hx k hk).2, (hin y hy k hk).2⟩))
  change Calls Tryz.prog 60 _ _ _ at hc
  exact hc
end
def rows_Ordered.f (l0 : List (List V)) (l1 : List KK) : Option (List (List V) × Int) := if smallE [l0] = 0 then (if okR l0 = true ∧ l1.length ≤ 1000000 then (if placesB l0 (l1.map fun k => k.f0) = true then some (sortBy (cfK (keysOf l1)) l0, 0) else some ([], 1)) else none) else some ([], smallE [l0])
set_option maxRecDepth 100000 in
set_option maxHeartbeats 4000000 in
theorem rows_Ordered.calls (A0 : Option Addr) (c0 : Nat) (l0 : List (List V)) (A1 : Option Addr) (c1 : Nat) (l1 : List KK) (r1 : List (List V)) (r2 : Int) (w : World) (hr0 : Kd.C (Kd.slice 61 k61) w A0 l0.length l0) (hc0 : l0.length ≤ c0) (hr1 : Kd.C k36 w A1 l1.length l1) (hc1 : l1.length ≤ c1) (h : rows_Ordered.f l0 l1 = some (r1, r2)) :
    Calls Tryz.prog 22 #[.slice A0 l0.length c0, .slice A1 l1.length c1] w fun e w' => ∃ v0_ : Value, e = .returned (.tuple #[v0_, .int .i64 r2]) ∧ Kd.S (Kd.slice 61 k61) 40 w' w.heap.size (fun _ => True) v0_ r1 ∧ Below w.heap.size w w' := by
  unfold rows_Ordered.f at h
  have HS := aM (fun W hb => small_one A0 c0 l0 w W hr0 hc0 hb)
  by_cases hs : smallE [l0] = 0
  case neg =>
    rw [if_neg hs] at h
    simp only [Option.some.injEq, Prod.mk.injEq] at h
    obtain ⟨rfl, rfl⟩ := h
    have hs2 : (smallE [l0] != 0) = true := by simpa using hs
    clear hr0 hc0 hr1 hc1 hs
    generalize smallE [l0] = x at HS hs2 ⊢
    generalize l0.length = n0 at HS ⊢
    generalize l1.length = n1 at *
    go_enter Tryz.func22, Tryz.ntmps22
    go_wp2_with (go_at_call 52; refine (HS.out _ (Below.refl _ _)).mono ?_; rintro e w1 ⟨rfl, hb1⟩)
    go_ret2
    exact ⟨_, rfl, Kd.S_nil _ _ _ _ _, hb1⟩
  rw [if_pos hs] at h
  by_cases hk : okR l0 = true ∧ l1.length ≤ 1000000
  case neg => rw [if_neg hk] at h; cases h
  rw [if_pos hk] at h
  rw [hs] at HS
  have hu36 := Tryz.underlying36
  have HPL := aM (fun W (hb : Below w.heap.size w W) A c (hC : Kd.C (Kd.int .i64) W A (l1.map fun k => k.f0).length (l1.map fun k => k.f0)) hcc => rows_places.calls A0 c0 l0 A c (l1.map fun k => k.f0) (placesB l0 (l1.map fun k => k.f0)) W (Kd.C_below hr0 hb) hc0 hC hcc (by
    unfold rows_places.f
    have := (okR_spec hk.1).1
    have := hk.2
    rw [List.length_map, if_pos ⟨by omega, by omega⟩]))
  have HCP := aM (fun W (hb : Below w.heap.size w W) => rows_Copy_s.calls A0 c0 l0 l0 W (Kd.C_below hr0 hb) hc0 (by unfold rows_Copy_s.f; rw [if_pos hk.1]))
  have HR1 := aM hr1
  have HOK := aM hk
  have H := aM h
  clear hr0 hc0 hr1 hc1 hs hk h
  generalize l0.length = n0 at HS HPL HCP ⊢
  obtain ⟨n, hn⟩ : ∃ n, n = l1.length := ⟨_, rfl⟩
  rw [← hn]
  have hle : n ≤ 1000000 := by have := HOK.out.2; omega
  have HN := aM hn
  clear hn
  go_enter Tryz.func22, Tryz.ntmps22
  go_wp2_with (go_at_call 52; refine (HS.out _ (Below.refl _ _)).mono ?_; rintro e w1 ⟨rfl, hb1⟩; have HB1 := aM hb1; clear hb1)
  go_loopg [7, 9, 19] n (fun gg s7 _ s19 wr => ∃ kk : Nat, kk ≤ n ∧ n - kk ≤ gg ∧ s19 = .int .i64 kk ∧ Aside0 (Below w.heap.size w wr) ∧ Aside0 (Kd.R (Kd.int .i64) 3 wr w.heap.size (fun _ => True) s7 ((l1.take kk).map fun k => k.f0)))
  case atStart => exact ⟨0, Nat.zero_le _, by omega, rfl, HB1, ⟨Kd.R_nil _ _ _ _ _⟩⟩
  case round =>
    clear HB1 HS
    obtain ⟨kk, hkk, hg, rfl, HB, HO⟩ := hrel
    obtain ⟨Ao, co, eo⟩ := Kd.R_slice HO.out
    subst eo
    obtain ⟨m, hm⟩ : ∃ m, m = ((l1.take kk).map fun k => k.f0).length := ⟨_, rfl⟩
    rw [← hm] at HO ⊢
    have HM : Aside0 (((l1.take kk).map fun k => k.f0).length ≤ 1000000) := ⟨by rw [List.length_map, List.length_take]; omega⟩
    by_cases hlt : kk < n
    · clear hm
      have hltz : (kk : Int) < (n : Int) := by omega
      have hlt' : kk < l1.length := by have := HN.out; omega
      obtain ⟨ad, e1, hx0, hx1⟩ := at_T36 HR1.out (kk : Int) (by omega) (by omega)
      cases e1
      rw [rd_atK _ _ hlt'] at hx0 hx1
      simp only [Int.toNat_natCast] at hx0 hx1
      replace hx0 := cell_keeps HB.out hx0
      replace hx1 := cell_keeps HB.out hx1
      have EK : Aside0 ((l1.take (kk + 1)).map (fun k => k.f0) = (l1.take kk).map (fun k => k.f0) ++ [l1[kk].f0]) := ⟨by
        rw [List.take_add_one, List.getElem?_eq_getElem hlt', List.map_append]; rfl⟩
      generalize l1[kk] = x at hx0 hx1 EK
      obtain ⟨col, desc⟩ := x
      dsimp only at hx0 hx1 EK
      clear hlt'
      go_wp2_with (at_builtin; refine append_int rfl _ _ rfl _ _ col rfl (by first | (go_simp; done) | (go_simp; rfl)) (Kd.R_alloc HO.out _) (below_alloc HB.out _).size (by have := HM.out; omega) ?_; intro v2 w2 ho2 hb2; have HO2 := aM ho2; have HB2 := aM ((below_alloc HB.out _).trans hb2); clear ho2 hb2)
      go_roundg (n - (kk + 1))
      case measure => omega
      case rel =>
        refine ⟨kk + 1, by omega, by omega, by go_num, HB2, ⟨?_⟩⟩
        rw [EK.out]
        exact HO2.out
    · have hltz : decide (kk < n) = false := by simpa using hlt
      have HM2 : Aside0 (m = (l1.map fun k => k.f0).length) := ⟨by rw [hm, List.take_of_length_le (by have := HN.out; omega)]⟩
      have HO2 : Aside0 (Kd.C (Kd.int .i64) wr Ao (l1.map fun k => k.f0).length (l1.map fun k => k.f0) ∧ (l1.map fun k => k.f0).length ≤ co) := ⟨by
        have h9 := HO.out
        rw [List.take_of_length_le (by have := HN.out; omega)] at h9
        have h8 := Kd.R_reads' h9
        exact ⟨h8.2.2, by have := h8.1; have := h8.2.1; omega⟩⟩
      have HPC := aM (HPL.out wr HB.out Ao co HO2.out.1 HO2.out.2)
      rw [← HM2.out] at HPC
      clear hlt HO hm HO2 HPL
      cases hpb : placesB l0 (l1.map fun k => k.f0) with
      | false =>
        have h := H.out
        rw [hpb, if_neg (by decide)] at h
        simp only [Option.some.injEq, Prod.mk.injEq] at h
        obtain ⟨rfl, rfl⟩ := h
        rw [hpb] at HPC
        clear H hpb
        go_wp2_with (go_at_call 58; refine HPC.out.mono ?_; rintro e w' ⟨rfl, hb'⟩; have HB' := aM (below_step HB.out hb'); clear hb')
        go_ret2
        exact ⟨_, rfl, Kd.S_nil _ _ _ _ _, HB'.out⟩
      | true =>
        have h := H.out
        rw [hpb, if_pos rfl] at h
        simp only [Option.some.injEq, Prod.mk.injEq] at h
        obtain ⟨rfl, rfl⟩ := h
        rw [hpb] at HPC
        have HPB := aM hpb
        clear H hpb
        go_wp2_with (first
          | (go_at_call 58; refine HPC.out.mono ?_; rintro e w2 ⟨rfl, hb2⟩; have HB2 := aM (below_step HB.out hb2); clear hb2)
          | (go_at_call 59; refine (HCP.out _ HB2.out).mono ?_; rintro e w3 ⟨v3, rfl, hv3, hb3⟩; have HV3 := aM (Kd.S_lower hv3 HB2.out.size); have HB3 := aM (below_step HB2.out hb3); clear hv3 hb3)
          | (go_at_call 61; refine (byFn.calls _ _ _ _).mono ?_; rintro e w4 ⟨rfl, rfl⟩)
          | (go_at_call 60; rw [HN.out]; refine (sortKeys.calls w3.heap.size A1 c1 l1 _ _ w _ (below_alloc HB3.out _) (blk_new w3 _) HR1.out (Kd.S_alloc HV3.out _) HOK.out.1 HOK.out.2 HPB.out).mono ?_; rintro e w5 ⟨rfl, hv5, _, hb5⟩; have HV5 := aM hv5; have HB5 := aM (hb5 w.heap.size w (Nat.le_refl _) (below_alloc HB3.out _) (below_alloc HB3.out _).size); clear hv5 hb5))
        go_ret2
        exact ⟨_, rfl, HV5.out, HB5.out⟩
-- NOT PRINTED: function 147 (abi_NoEscape)
-- NOT PRINTED: function 116 (strings_Builder_copyCheck)
-- NOT PRINTED: function 77 (strings_Builder_WriteString)
-- NOT PRINTED: function 81 (strings_Builder_String)
-- NOT PRINTED: function 177 (bytealg_MakeNoZero)
-- NOT PRINTED: function 164 (strings_Builder_grow)
-- NOT PRINTED: function 150 (strings_Builder_Grow)
-- NOT PRINTED: function 118 (strings_Join)
section
variable {ops : Array Oper} {rest : List Oper} {o : Oper} {a : Act} {Q : Exit → Act → World → Prop}
theorem append_str {W : World} {base : Nat} (hgd : o.guard = none) (s x : Operand) (ho : o.op = .call { callee := .builtin .append, args := #[s, x], argTypes := #[133, 133] })
    (v : Value) (xs : List ByteArray) (p : ByteArray) (hs : a.eval s = v) (hx : a.eval x = .slice (some ⟨W.heap.size, 0, none⟩) 1 1)
    (HO : Kd.R Kd.string 9 W base (fun _ => True) v xs) (hbase : base ≤ W.heap.size) (hl : xs.length ≤ 5000000)
    (h : ∀ v1 w1, Kd.R Kd.string 9 w1 base (fun _ => True) v1 (xs ++ [p]) → Below base W w1 → wpList Tryz.prog ops Q rest (a.put o.dst v1) w1) :
    wpList Tryz.prog ops Q (o :: rest) a (W.alloc (.cells #[.string p] 9)) := by
  refine Kd.R_append Kd.string (w0 := W) base hgd s x 133 9 (.string ⟨#[]⟩) 16 ho Tryz.underlying133 (by kernel_rfl) rfl (by decide) (by omega) v xs p [.string p] (fun _ => True) (fun _ => False) hs hx rfl (fun _ hk => hk.elim) (fun _ _ => trivial) HO (Below.refl _ _) hbase (by omega) (fun v1 w1 h1 h2 _ _ => h v1 w1 h1 h2)
theorem join_none.calls (sep : ByteArray) (w : World) : Calls Tryz.prog 118 #[.slice none 0 0, .string sep] w fun e w' => e = .returned (.string ⟨#[]⟩) ∧ w' = w := by
  go_enter Tryz.func118, Tryz.ntmps118
  go_wp2
  go_ret
  exact ⟨rfl, rfl⟩
theorem joinAny.calls (v : Value) (xs : List ByteArray) (sep : ByteArray) (w : World) (base : Nat) (h : Kd.R Kd.string 9 w base (fun _ => True) v xs) (hl : xs.length ≤ 1000000) (hj : (Lib.join (xs.map (·.data.toList)) sep.data.toList).length ≤ 140737488355328) :
    Calls Tryz.prog 118 #[v, .string sep] w fun e w' => e = .returned (.string (ofL (Lib.join (xs.map (·.data.toList)) sep.data.toList))) ∧ Below w.heap.size w w' := by
  cases xs with
  | nil =>
    obtain ⟨A, c, rfl⟩ := Kd.R_slice h
    cases A with
    | none =>
      have hc : c = 0 := by
        obtain ⟨_, inner, ho, _⟩ := h
        rcases ho.2 with ⟨he, _⟩ | ⟨g, cap, cur, he, _⟩
        · injection he
        · cases he
      subst hc
      refine (join_none.calls sep w).mono ?_
      rintro e w' ⟨rfl, rfl⟩
      exact ⟨by rw [List.map_nil, Lib.join_nil]; rfl, Below.refl _ _⟩
    | some ad =>
      obtain ⟨g, rfl⟩ := Kd.R_head h
      have hg : g < w.heap.size := Kd.R_lt h g rfl
      exact Tryz.strings_Join g 0 c [] sep w (fun j x hx => by simp at hx) hg (by decide) (Nat.zero_le _) hj
  | cons x xr =>
    obtain ⟨g, cap, rfl, _, hg, _⟩ := Kd.R_form h (by simp)
    have hr := Kd.R_reads' h
    refine Tryz.strings_Join g 0 cap (x :: xr) sep w (fun j y hy => ?_) hg (by omega) hr.2.1 hj
    have hc := Kd.reads_of_C (d := ⟨#[]⟩) hr.2.2
    obtain ⟨ad, e, h2⟩ := hc.2.2 (by simp)
    injection e with e
    have hjl := (List.getElem?_eq_some_iff.1 hy).1
    have h3 := h2 j hjl
    rw [← e, add_at, List.getD_eq_getElem?_getD, hy] at h3
    exact h3
end
def rows_Written.f (l0 : List V) : Option ByteArray := if okRow l0 = true then some (ofL (rowL l0)) else none
set_option maxRecDepth 100000 in
set_option maxHeartbeats 2000000 in
theorem rows_Written.calls (A0 : Option Addr) (c0 : Nat) (l0 : List V) (r : ByteArray) (w : World) (hL_ : Laid w) (hr0 : Kd.C k61 w A0 l0.length l0) (_hc0 : l0.length ≤ c0) (h : rows_Written.f l0 = some r) :
    Calls Tryz.prog 78 #[.slice A0 l0.length c0] w fun e w' => e = .returned (.string r) ∧ Below w.heap.size w w' := by
  unfold rows_Written.f at h
  by_cases hs : okRow l0 = true
  case neg => rw [if_neg hs] at h; cases h
  rw [if_pos hs] at h
  obtain rfl := Option.some.inj h
  have hu61 := Tryz.underlying61
  have HLD := aM hL_
  have HR0 := aM hr0
  have HS := aM (okRow_spec hs)
  have HJ := aM (rowL_len hs).1
  clear h hs hL_ hr0
  obtain ⟨n, hn⟩ : ∃ n, n = l0.length := ⟨_, rfl⟩
  rw [← hn]
  have hle : n ≤ 1000 := by have := HS.out.1; omega
  have HN := aM hn
  clear hn
  obtain ⟨res, hres⟩ : ∃ res, res = ofL (rowL l0) := ⟨_, rfl⟩
  rw [← hres]
  have HRES := aM hres
  clear hres
  go_enter Tryz.func78, Tryz.ntmps78
  go_wp2
  go_loopg [3, 5, 8] n (fun gg s3 _ s8 wr => ∃ kk : Nat, kk ≤ n ∧ n - kk ≤ gg ∧ s8 = .int .i64 kk ∧ Aside0 (Below w.heap.size w wr) ∧ Aside0 (Kd.R Kd.string 9 wr w.heap.size (fun _ => True) s3 ((l0.take kk).map fun v => ofL (wrL v))))
  case atStart => exact ⟨0, Nat.zero_le _, by omega, rfl, ⟨Below.refl _ _⟩, ⟨Kd.R_nil _ _ _ _ _⟩⟩
  case round =>
    obtain ⟨kk, hkk, hg, rfl, HB, HO⟩ := hrel
    obtain ⟨Ao, co, eo⟩ := Kd.R_slice HO.out
    subst eo
    obtain ⟨m, hm⟩ : ∃ m, m = ((l0.take kk).map fun v => ofL (wrL v)).length := ⟨_, rfl⟩
    rw [← hm] at HO ⊢
    have HM : Aside0 (((l0.take kk).map fun v => ofL (wrL v)).length ≤ 1000) := ⟨by rw [List.length_map, List.length_take]; omega⟩
    clear hm
    by_cases hlt : kk < n
    · have hltz : (kk : Int) < (n : Int) := by omega
      have hlt' : kk < l0.length := by have := HN.out; omega
      obtain ⟨ad, e1, hx0, hx1, hx2⟩ := at_T61 HR0.out (kk : Int) (by omega) (by omega)
      cases e1
      rw [rd_at _ _ hlt'] at hx0 hx1 hx2
      simp only [Int.toNat_natCast] at hx0 hx1 hx2
      replace hx0 := cell_keeps HB.out hx0
      replace hx1 := cell_keeps HB.out hx1
      replace hx2 := cell_keeps HB.out hx2
      have hok := HS.out.2 l0[kk] (List.getElem_mem hlt')
      have EK : Aside0 ((l0.take (kk + 1)).map (fun v => ofL (wrL v)) = (l0.take kk).map (fun v => ofL (wrL v)) ++ [ofL (wrL l0[kk])]) := ⟨by
        rw [List.take_add_one, List.getElem?_eq_getElem hlt', List.map_append]; rfl⟩
      generalize l0[kk] = y at hx0 hx1 hx2 hok EK
      have hcall := fun W hL => value_Written.calls y.f0 y.f1 y.f2 (ofL (wrL y)) W hL (by unfold value_Written.f; rw [if_pos (show okV y.f0 y.f1 y.f2 = true from hok)]; rfl)
      have HC := aM hcall
      clear hok hcall hlt'
      generalize ofL (wrL y) = s at HC EK
      go_wp2_with (first
        | (go_at_call 117; refine (HC.out _ (HLD.out.below (below_alloc HB.out _))).mono ?_; rintro e w2 ⟨rfl, hb2⟩; have HB2 := aM (below_step (below_alloc HB.out _) hb2); have HO2 := aM (Kd.R_below HO.out (below_step (below_alloc (Below.refl _ _) _) hb2)); clear hb2)
        | (at_builtin; refine append_str rfl _ _ rfl _ _ s rfl (by first | rfl | (go_simp; done) | (go_simp; rfl)) HO2.out HB2.out.size (by have := HM.out; omega) ?_; intro v3 w3 ho3 hb3; have HO3 := aM ho3; have HB3 := aM (HB2.out.trans hb3); clear ho3 hb3))
      go_roundg (n - (kk + 1))
      case measure => omega
      case rel =>
        refine ⟨kk + 1, by omega, by omega, by go_num, HB3, ⟨?_⟩⟩
        rw [EK.out]
        exact HO3.out
    · have hltz : decide (kk < n) = false := by simpa using hlt
      have HO2 : Aside0 (Kd.R Kd.string 9 wr w.heap.size (fun _ => True) (.slice Ao m co) (l0.map fun v => ofL (wrL v))) := ⟨by
        have h9 := HO.out
        rw [List.take_of_length_le (by have := HN.out; omega)] at h9
        exact h9⟩
      have hmm : (l0.map fun v => ofL (wrL v)).map (·.data.toList) = l0.map wrL := by rw [List.map_map]; rfl
      have hcall := joinAny.calls _ _ ⟨#[44, 32]⟩ wr _ HO2.out (by rw [List.length_map]; have := HS.out.1; omega) (by rw [hmm]; have := HJ.out; show (Lib.join (l0.map wrL) [44, 32]).length ≤ _; omega)
      rw [hmm, show (⟨#[44, 32]⟩ : ByteArray).data.toList = [44, 32] from rfl] at hcall
      have HC := aM hcall
      have HE : Aside0 (res = (⟨#[40]⟩ : ByteArray) ++ ofL (Lib.join (l0.map wrL) [44, 32]) ++ (⟨#[41]⟩ : ByteArray)) := ⟨by
        rw [HRES.out]
        refine ba_ext ?_
        rw [ByteArray.data_append, ByteArray.data_append, Array.toList_append, Array.toList_append]
        rfl⟩
      have hsz : (ofL (Lib.join (l0.map wrL) [44, 32])).size ≤ 404000 := by rw [ofL_size]; exact HJ.out
      clear hcall hlt HO HO2 hmm
      generalize ofL (Lib.join (l0.map wrL) [44, 32]) = j at HC HE hsz
      have h1 : 1 + j.size ≤ 9223372036854775807 := by omega
      have h2 : 1 + j.size + 1 ≤ 9223372036854775807 := by omega
      have h3 : ((⟨#[40]⟩ : ByteArray) ++ j).size + 1 ≤ 9223372036854775807 := by rw [ByteArray.size_append]; exact h2
      clear hsz
      go_wp2_with (go_at_call 118; refine HC.out.mono ?_; rintro e w' ⟨rfl, hb'⟩)
      go_ret
      exact ⟨by rw [HE.out]; rfl, below_step HB.out hb'⟩
def rows_String.f (l0 : List (List V)) : Option (ByteArray × Int) := if smallE [l0] = 0 then (if okRR l0 = true then (if (strR l0).length ≤ 20000 then some (ofL (strR l0), 0) else some (⟨#[]⟩, 2)) else none) else some (⟨#[]⟩, smallE [l0])
set_option maxRecDepth 100000 in
set_option maxHeartbeats 2000000 in
theorem rows_String.calls (A0 : Option Addr) (c0 : Nat) (l0 : List (List V)) (r1 : ByteArray) (r2 : Int) (w : World) (hr0 : Kd.C (Kd.slice 61 k61) w A0 l0.length l0) (hc0 : l0.length ≤ c0) (hL_ : Laid w) (h : rows_String.f l0 = some (r1, r2)) :
  Calls Tryz.prog 48 #[.slice A0 l0.length c0] w fun e w' => e = .returned (.tuple #[.string r1, .int .i64 r2]) ∧ Below w.heap.size w w' := by
 unfold rows_String.f at h
 have HSM := aM (fun W hb => small_one A0 c0 l0 w W hr0 hc0 hb)
 by_cases hs : smallE [l0] = 0
 case neg =>
  rw [if_neg hs] at h
  simp only [Option.some.injEq, Prod.mk.injEq] at h
  obtain ⟨rfl, rfl⟩ := h
  have hs2 : (smallE [l0] != 0) = true := by simpa using hs
  clear hL_ hr0 hc0 hs
  generalize smallE [l0] = x at HSM hs2 ⊢
  generalize l0.length = n0 at HSM ⊢
  go_enter Tryz.func48, Tryz.ntmps48
  go_wp2_with (go_at_call 52; refine (HSM.out _ (Below.refl _ _)).mono ?_; rintro e w1 ⟨rfl, hb1⟩)
  go_ret2
  exact ⟨rfl, hb1⟩
 rw [if_pos hs] at h
 by_cases hk : okRR l0 = true
 case neg => rw [if_neg hk] at h; cases h
 rw [if_pos hk] at h
 rw [hs] at HSM
 have HLD := aM hL_
 have HR0 := aM hr0
 have HS := aM (okRR_spec hk)
 have H := aM h
 clear h hs hk hL_ hr0 hc0
 obtain ⟨n, hn⟩ : ∃ n, n = l0.length := ⟨_, rfl⟩
 rw [← hn] at HSM ⊢
 have hle : n ≤ 1000000 := by have := HS.out.1; omega
 have HN := aM hn
 clear hn
 go_enter Tryz.func48, Tryz.ntmps48
 go_wp2_with (go_at_call 52; refine (HSM.out _ (Below.refl _ _)).mono ?_; rintro e w1 ⟨rfl, hb1⟩; have HB1 := aM (below_alloc hb1 (.cells #[.pointer none, .slice none 0 0] 102)); have HI1 : Aside0 (Lib.IsBuilder 102 5 w1.heap.size w1.heap.size (Lib.byteCells (strR (l0.take 0))) (w1.alloc (.cells #[.pointer none, .slice none 0 0] 102))) := ⟨Lib.fresh_isBuilder _ _ w1⟩; have HW1 := aM hb1.size; clear hb1)
 generalize w1.alloc (.cells #[.pointer none, .slice none 0 0] 102) = ws at HI1 HB1 ⊢
 generalize w1.heap.size = bb at HI1 HW1 ⊢
 have HBS : Aside0 (bb ≤ ws.heap.size) := ⟨by
  rcases HI1.out with h9 | h9
  ·exact Nat.le_of_lt h9.lt
  ·exact Nat.le_of_lt h9.lt⟩
 go_loopg [7, 16] n (fun gg _ s16 wr => ∃ kk : Nat, kk ≤ n ∧ n - kk ≤ gg ∧ s16 = .int .i64 kk ∧ Aside0 (Below w.heap.size w wr) ∧ Aside0 (Lib.IsBuilder 102 5 bb bb (Lib.byteCells (strR (l0.take kk))) wr) ∧ Aside0 (bb ≤ wr.heap.size))
 case atStart => exact ⟨0, Nat.zero_le _, by omega, rfl, HB1, HI1, HBS⟩
 case round =>
  clear HB1 HI1 HBS HSM
  obtain ⟨kk, hkk, hg, rfl, HB, HI, HBS⟩ := hrel
  by_cases hlt : kk < n
  ·have hltz : (kk : Int) < (n : Int) := by omega
   have hlt' : kk < l0.length := by have := HN.out; omega
   obtain ⟨ad, e1, hcs⟩ := HR0.out.2.2 (by omega)
   cases e1
   obtain ⟨cs, hcs1, ⟨A1, c1, rfl, hle1, hC1⟩, hcs3⟩ := hcs kk l0[kk] (List.getElem?_eq_getElem hlt')
   have hx0 : w.cell? (ad.add kk) = some (.slice A1 l0[kk].length c1) := by
    have h9 := hcs3 0 _ rfl
    rw [show kk * (Kd.slice 61 k61).sz + 0 = kk from Nat.mul_one kk] at h9
    exact h9
   replace hx0 := cell_keeps HB.out hx0
   have hrow := HS.out.2 l0[kk] (List.getElem_mem hlt')
   have htk : strR (l0.take (kk + 1)) = strR (l0.take kk) ++ (rowL l0[kk] ++ [10]) := by
    rw [List.take_add_one, List.getElem?_eq_getElem hlt']; exact strR_snoc _ _
   have hlen : (strR (l0.take kk)).length ≤ kk * 404003 := by
    have := strR_len (l0.take kk) (fun v hv => HS.out.2 v (List.mem_of_mem_take hv))
    rw [List.length_take] at this
    exact Nat.le_trans this (Nat.mul_le_mul_right _ (Nat.min_le_left _ _))
   have hwl := (rowL_len hrow).2
   have hcall := rows_Written.calls A1 c1 l0[kk] (ofL (rowL l0[kk])) wr (HLD.out.below HB.out) (Kd.C_below hC1 HB.out) hle1 (by unfold rows_Written.f; rw [if_pos hrow])
   clear hcs3 hcs1 hcs hC1 hle1
   generalize l0[kk] = y at hx0 hrow htk hcall hwl
   have hsz : (ofL (rowL y)).size = (rowL y).length := ofL_size _
   have hsc : Lib.strCells (ofL (rowL y)) = Lib.byteCells (rowL y) := rfl
   have HC := aM hcall
   have HT := aM htk
   have HL := aM (And.intro hlen (And.intro hwl hsz))
   have HSC := aM hsc
   clear hrow htk hlen hwl hcall hsz hsc hlt'
   generalize ofL (rowL y) = s at HC HL HSC
   generalize y.length = ylen at hx0 HC
   go_wp2_with (go_at_call 78; refine HC.out.mono ?_; rintro e w2 ⟨rfl, hb2⟩; have HB2 := aM (below_step HB.out hb2); have HI2 := aM (builder_below HI.out hb2); have HS2 := aM (Nat.le_trans HBS.out hb2.size); clear hb2)
   go_at_call 77
   refine (builder_write _ _ _ _ _ HI2.out (by rw [Lib.byteCells_length]; have := HL.out; omega) HS2.out).mono ?_
   rintro e w3 ⟨rfl, hi3, hb3⟩
   have HB3 := aM (HB2.out.trans (hb3.mono HW1.out))
   have HS3 := aM hb3.size
   have HI3 := aM hi3
   clear hi3 hb3
   go_wp2_with (go_at_call 79; refine (builder_byte _ _ _ _ _ HI3.out (by rw [List.length_append, Lib.byteCells_length, Lib.strCells_length]; have := HL.out; omega) (Nat.le_trans HS2.out HS3.out)).mono ?_; rintro e w4 ⟨rfl, hi4, hb4⟩; have HB4 := aM (HB3.out.trans (hb4.mono HW1.out)); have HS4 := aM hb4.size; have HI4 := aM hi4; clear hi4 hb4)
   go_roundg (n - (kk + 1))
   case measure => omega
   case rel =>
    refine ⟨kk + 1, by omega, by omega, by go_num, HB4, ⟨?_⟩, ⟨Nat.le_trans HS2.out (Nat.le_trans HS3.out HS4.out)⟩⟩
    rw [HT.out, Lib.byteCells_append, Lib.byteCells_append, ← HSC.out, ← List.append_assoc]
    exact HI4.out
  ·have hltz : decide (kk < n) = false := by simpa using hlt
   have HI2 : Aside0 (Lib.IsBuilder 102 5 bb bb (Lib.byteCells (strR l0)) wr) := ⟨by
    have h9 := HI.out
    rw [List.take_of_length_le (by have := HN.out; omega)] at h9
    exact h9⟩
   have HLN := aM (fun W (h9 : Lib.IsBuilder 102 5 bb bb (Lib.byteCells (strR l0)) W) => Tryz.Builder_Len _ _ _ W h9)
   rw [Lib.byteCells_length] at HLN
   have hbd : (strR l0).length ≤ 1000000 * 404003 := Nat.le_trans (strR_len l0 HS.out.2) (Nat.mul_le_mul_right _ (by have := HN.out; omega))
   clear hlt HI
   by_cases hz : (strR l0).length ≤ 20000
   ·have h := H.out
    rw [if_pos hz] at h
    simp only [Option.some.injEq, Prod.mk.injEq] at h
    obtain ⟨rfl, rfl⟩ := h
    have hz2 : ¬ (20000 : Int) < ((strR l0).length : Int) := by omega
    clear H
    generalize (strR l0).length = ln at HLN hbd hz hz2
    go_wp2_with (first
     | (go_at_call 80; refine (HLN.out _ HI2.out).mono ?_; rintro e w2 ⟨rfl, rfl⟩)
     | (go_at_call 81; refine (Tryz.Builder_String_any _ _ _ _ HI2.out HBS.out).mono ?_; rintro e w3 ⟨rfl, hb3⟩; have HB3 := aM (HB.out.trans (hb3.mono HW1.out)); clear hb3))
    go_ret2
    exact ⟨rfl, HB3.out⟩
   ·have h := H.out
    rw [if_neg hz] at h
    simp only [Option.some.injEq, Prod.mk.injEq] at h
    obtain ⟨rfl, rfl⟩ := h
    have hz2 : (20000 : Int) < ((strR l0).length : Int) := by omega
    clear H
    generalize (strR l0).length = ln at HLN hbd hz hz2
    go_wp2_with (go_at_call 80; refine (HLN.out _ HI2.out).mono ?_; rintro e w2 ⟨rfl, rfl⟩)
    go_ret2
    exact ⟨rfl, HB.out⟩
end Go.Proofs.YtmhobbdedmjmnaaGreatDoor.Q
end
section
namespace Go.Proofs.YtmhobbdedmjmnaaGreatDoor.Q
open Go.RowKit Go.Proofs.YtmhobbdedmjmnaaGreatDoorW.PrintWords Go.Proofs.YtmhobbdedmjmnaaGreatDoorW.PrintLast Go.Proofs.YtmhobbdedmjmnaaGreatDoorW.PrintMore
attribute [local go_sem] max2_int min2_int max_two min_two max_three min_three max_four min_four
set_option linter.unusedVariables false
set_option linter.unusedSimpArgs false
end Go.Proofs.YtmhobbdedmjmnaaGreatDoor.Q
end
section
namespace Go.Proofs.YtmhobbdedmjmnaaGreatDoor
open Go.RowKit Go.Proofs.YtmhobbdedmjmnaaGreatDoor.Q Go.Proofs.YtmhobbdedmjmnaaGreatDoorW.PrintWords Go.Proofs.YtmhobbdedmjmnaaGreatDoorW.PrintLast Go.Proofs.YtmhobbdedmjmnaaGreatDoorW.PrintMore
def KeysIn (ks : List KK) (l : List (List V)) : Prop := ks.length ≤ 1000 ∧ ∀ k ∈ ks, ∀ r ∈ l, 0 ≤ k.f0 ∧ k.f0 < r.length
theorem RowsOk.sub {n m : Nat} {l r : List (List V)} (h : RowsOk n l) (hs : ∀ x ∈ r, x ∈ l) (hl : r.length ≤ m) : RowsOk m r := ⟨hl, fun x hx => h.2 x (hs x hx)⟩
theorem KeysIn.sub {ks : List KK} {l r : List (List V)} (h : KeysIn ks l) (hs : ∀ x ∈ r, x ∈ l) : KeysIn ks r := ⟨h.1, fun k hk x hx => h.2 k hk x (hs x hx)⟩
end Go.Proofs.YtmhobbdedmjmnaaGreatDoor
end
section
namespace Go.Proofs.YtmhobbdedmjmnaaGreatDoor.Q
open Go.RowKit Go.Proofs.YtmhobbdedmjmnaaGreatDoorW.PrintWords Go.Proofs.YtmhobbdedmjmnaaGreatDoorW.PrintLast Go.Proofs.YtmhobbdedmjmnaaGreatDoorW.PrintMore
attribute [local go_sem] max2_int min2_int max_two min_two max_three min_three max_four min_four
set_option linter.unusedVariables false
set_option linter.unusedSimpArgs false
end Go.Proofs.YtmhobbdedmjmnaaGreatDoor.Q
end
section
end
section
namespace Go.Proofs.YtmhobbdedmjmnaaGreatDoor
open Go.RowKit Go.Proofs.YtmhobbdedmjmnaaGreatDoor.Q Go.Proofs.YtmhobbdedmjmnaaGreatDoorW.PrintWords Go.Proofs.YtmhobbdedmjmnaaGreatDoorW.PrintLast Go.Proofs.YtmhobbdedmjmnaaGreatDoorW.PrintMore
def argRow (x : List V) : Prop := x.length * 32 ≤ 140737488351232 ∧ x.length ≤ maxLen ∧ ∀ xx ∈ x, (Lit.int .i64 xx.f0).wf = true ∧ (Lit.int .i64 xx.f1).wf = true ∧ xx.f2.size ≤ 140737488351232
def argRows (l : List (List V)) : Prop := l.length * 24 ≤ 140737488351232 ∧ l.length ≤ maxLen ∧ ∀ x ∈ l, argRow x
theorem argRows_ok {n : Nat} {l : List (List V)} (h : argRows l) : RowsOk n (cutRows n l) := cutRows_ok fun r hr => (h.2.2 r hr).2.2
theorem RowsOk.grow {n m : Nat} {l : List (List V)} (h : RowsOk n l) (hn : n ≤ m) : RowsOk m l := h.sub (fun _ h => h) (Nat.le_trans h.1 hn)
theorem smallE_nil (a : List (List V)) : smallE [a, []] = smallE [a] := by
  unfold smallE
  have h1 : largeR [] = false := rfl
  have h2 : wrongR [] = false := rfl
  simp only [List.any_cons, List.any_nil, Bool.or_false, h1, h2]
end Go.Proofs.YtmhobbdedmjmnaaGreatDoor
end
section
namespace Go.Proofs.YtmhobbdedmjmnaaGreatDoor.Q
open Go.RowKit Go.Proofs.YtmhobbdedmjmnaaGreatDoorW.PrintWords Go.Proofs.YtmhobbdedmjmnaaGreatDoorW.PrintLast Go.Proofs.YtmhobbdedmjmnaaGreatDoorW.PrintMore
attribute [local go_sem] max2_int min2_int max_two min_two max_three min_three max_four min_four
set_option linter.unusedVariables false
set_option linter.unusedSimpArgs false
theorem eqA61 (d : Nat) (w : World) (x0 y0 : Int) (x1 y1 : Int) (x2 y2 : ByteArray) :
  (Op.equalIn (d + 2) 61 (.agg #[.int .i64 x0, .int .i64 x1, .string x2]) (.agg #[.int .i64 y0, .int .i64 y1, .string y2])).run Tryz.prog w = .ok (x0 == y0 && (x1 == y1 && (x2.toList == y2.toList))) w := by
 refine eqA_of Tryz.underlying61 (by kernel_rfl) ?_
 refine eqf_cons (by rfl) (by go_simp; rfl) (by go_simp; rfl) (by go_simp) ?_
 refine eqf_cons (by rfl) (by go_simp; rfl) (by go_simp; rfl) (by go_simp) ?_
 exact eqf_last (by rfl) (by go_simp; rfl) (by go_simp; rfl) (by go_simp)
end Go.Proofs.YtmhobbdedmjmnaaGreatDoor.Q
end
section
namespace Go.Proofs.YtmhobbdedmjmnaaGreatDoor.Q
open Go.RowKit Go.Proofs.YtmhobbdedmjmnaaGreatDoorW.PrintWords Go.Proofs.YtmhobbdedmjmnaaGreatDoorW.PrintLast Go.Proofs.YtmhobbdedmjmnaaGreatDoorW.PrintMore
attribute [local go_sem] max2_int min2_int max_two min_two max_three min_three max_four min_four
set_option linter.unusedVariables false
set_option linter.unusedSimpArgs false
attribute [local go_sem high] eqA61
end Go.Proofs.YtmhobbdedmjmnaaGreatDoor.Q
end
section
namespace Go.Proofs.YtmhobbdedmjmnaaGreatDoor.Q
open Go.RowKit Go.Proofs.YtmhobbdedmjmnaaGreatDoorW.PrintWords Go.Proofs.YtmhobbdedmjmnaaGreatDoorW.PrintLast Go.Proofs.YtmhobbdedmjmnaaGreatDoorW.PrintMore
attribute [local go_sem] max2_int min2_int max_two min_two max_three min_three max_four min_four
set_option linter.unusedVariables false
set_option linter.unusedSimpArgs false
end Go.Proofs.YtmhobbdedmjmnaaGreatDoor.Q
end
section
namespace Go.Proofs.YtmhobbdedmjmnaaGreatDoor
open Go.RowKit Go.Proofs.YtmhobbdedmjmnaaGreatDoor.Q Go.Proofs.YtmhobbdedmjmnaaGreatDoorW.PrintWords Go.Proofs.YtmhobbdedmjmnaaGreatDoorW.PrintLast Go.Proofs.YtmhobbdedmjmnaaGreatDoorW.PrintMore
theorem dec_consP {α : Type} [DecidableEq α] (x y : α) (l r : List α) : decide (x :: l = y :: r) = (decide (x = y) && decide (l = r)) := by
  by_cases e : x = y
  · by_cases e2 : l = r
    · subst e e2; simp
    · simp [e, e2]
  · simp [e]
theorem refEqual2_loop (l m : List (List V)) (hl : RowsOk 100000 l) (hm : RowsOk 100000 m) (hlm : l.length = m.length) : ∀ (d i k : Nat), i + d = l.length → d + 300 < k →
    tacticianref02_Equal.l0 k l m (i : Int) = some (decide (l.drop i = m.drop i)) := by
  have hl1 := hl.1
  intro d
  induction d with
  | zero =>
    intro i k hi hk
    obtain ⟨k, rfl⟩ : ∃ m, k = m + 1 := ⟨k - 1, by omega⟩
    rw [tacticianref02_Equal.l0, if_neg (by omega), List.drop_of_length_le (by omega), List.drop_of_length_le (by omega)]
    rfl
  | succ d ih =>
    intro i k hi hk
    obtain ⟨k, rfl⟩ : ∃ m, k = m + 1 := ⟨k - 1, by omega⟩
    have h1 : i < l.length := by omega
    have h2 : i < m.length := by omega
    rw [tacticianref02_Equal.l0, if_pos (by omega), if_pos (by omega), if_pos (by omega), rdL_at l i h1, rdL_at m i h2, refCmp _ _ (hl.2 _ (List.getElem_mem h1)) (hm.2 _ (List.getElem_mem h2)) k (by omega), Option.bind_some, List.drop_eq_getElem_cons h1, List.drop_eq_getElem_cons h2, dec_consP]
    by_cases h : l[i] = m[i]
    · rw [if_pos ((cfR_zero _ _).2 h), decide_eq_true h, Bool.true_and, wrap_small (n := (i : Int) + 1) (by omega) (by omega), show ((i : Int) + 1) = ((i + 1 : Nat) : Int) by omega]
      exact ih (i + 1) k (by omega) (by omega)
    · rw [if_neg (fun e => h ((cfR_zero _ _).1 e)), decide_eq_false h, Bool.false_and]
theorem refEqual2 (l m : List (List V)) (hl : RowsOk 100000 l) (hm : RowsOk 100000 m) (k : Nat) (hk : 100301 ≤ k) : tacticianref02_Equal.f k l m = some (decide (l = m)) := by
  have hl1 := hl.1
  unfold tacticianref02_Equal.f
  by_cases h : l.length = m.length
  · rw [if_pos (by omega)]
    exact refEqual2_loop l m hl hm h l.length 0 k (by omega) (by omega)
  · rw [if_neg (by omega), decide_eq_false fun e => h (by rw [e])]
end Go.Proofs.YtmhobbdedmjmnaaGreatDoor
end
section
namespace Go.Proofs.YtmhobbdedmjmnaaGreatDoor.Q
open Go.RowKit Go.Proofs.YtmhobbdedmjmnaaGreatDoorW.PrintWords Go.Proofs.YtmhobbdedmjmnaaGreatDoorW.PrintLast Go.Proofs.YtmhobbdedmjmnaaGreatDoorW.PrintMore
attribute [local go_sem] max2_int min2_int max_two min_two max_three min_three max_four min_four
set_option linter.unusedVariables false
set_option linter.unusedSimpArgs false
def tacticianref01_Bool.f (a0 : Bool) : Option (Int × Int × ByteArray) := if a0 = true then (some (2, 1, (⟨#[]⟩ : ByteArray))) else (some (2, 0, (⟨#[]⟩ : ByteArray)))
set_option maxHeartbeats 8000000 in
set_option maxRecDepth 100000 in
theorem tacticianref01_Bool.calls (a0 : Bool) (r1 : Int) (r2 : Int) (r3 : ByteArray) (w : World) (h : tacticianref01_Bool.f a0 = some (r1, r2, r3)) :
    Calls Tryz.prog 142 #[.bool a0] w fun e w' => e = .returned (.agg #[.int .i64 r1, .int .i64 r2, .string r3]) ∧ Below w.heap.size w w' := by
  have hu61 := Tryz.underlying61
  have HB := aM (Below.refl w.heap.size w)
  have H : (if a0 = true then (some (2, 1, (⟨#[]⟩ : ByteArray))) else (some (2, 0, (⟨#[]⟩ : ByteArray)))) = some (r1, r2, r3) := h
  clear h
  by_cases c2 : a0 = true
  · subst c2
    have H1 : (some (2, 1, (⟨#[]⟩ : ByteArray))) = some (r1, r2, r3) := by rw [if_pos rfl] at H; exact H
    clear H
    have H := H1
    clear H1
    simp only [Option.some.injEq, Prod.mk.injEq] at H
    obtain ⟨rfl, rfl, rfl⟩ := H
    go_enter Tryz.func142, Tryz.ntmps142
    go_wp2_with (first | ((with_reducible refine gate_dst (N := 2) rfl ?_); refine box_event ?hg (N := 2) ?hd (cs := #[.int .i64 0, .int .i64 0, .string (⟨#[]⟩ : ByteArray)]) (t := 61) ?hr ?_; (case hd => rfl); (case hg => rfl); (case hr => first | (go_simp; done) | (go_simp; rfl)); intro gb528 hg w3 hbox hb; have n0_ := aM (below_step (by repeat (first | (with_reducible first | exact HB.out | apply yA | apply yN | apply yD) | exact HB.out)) hb); have n1_ := aM (hbox); have n2_ := aM ((by rw [hg]; exact (below_size (by repeat (first | (with_reducible first | exact HB.out | apply yA | apply yN | apply yD) | exact HB.out))) : w.heap.size ≤ gb528)); have n3_ := n2_; clear HB; have HB := n0_; have BK528 := n1_; have GW528 := n2_; have GE528 := n3_; clear n0_ n1_ n2_ n3_; clear hb hbox hg; have hcz4_0 : w3.cell? ⟨gb528, 0, none⟩ = some (.int .i64 0) := (blk_cell BK528.out 0).trans rfl; have hcz4_1 : w3.cell? ⟨gb528, 1, none⟩ = some (.int .i64 0) := (blk_cell BK528.out 1).trans rfl; have hcz4_2 : w3.cell? ⟨gb528, 2, none⟩ = some (.string (⟨#[]⟩ : ByteArray)) := (blk_cell BK528.out 2).trans rfl; have hfz4_0 := blk_frozen BK528.out 0; have hfz4_1 := blk_frozen BK528.out 1; have hfz4_2 := blk_frozen BK528.out 2))
    refine bodyPost_ret (results_cell_row rfl _ _ gb528 61 #[.int .i64 2, .int .i64 1, .string (⟨#[]⟩ : ByteArray)] (0, 0) _ rfl (by (with_reducible repeat (first | refine zN ?_ _ | refine zD ?_ | refine zA ?_ _)); refine blk_put (cs := #[.int .i64 2, .int .i64 1, .string (⟨#[]⟩ : ByteArray)]) ?_ 2 _ rfl; (with_reducible repeat (first | refine zN ?_ _ | refine zD ?_ | refine zA ?_ _)); refine blk_put (cs := #[.int .i64 2, .int .i64 0, .string (⟨#[]⟩ : ByteArray)]) ?_ 1 _ rfl; (with_reducible repeat (first | refine zN ?_ _ | refine zD ?_ | refine zA ?_ _)); refine blk_put (cs := #[.int .i64 0, .int .i64 0, .string (⟨#[]⟩ : ByteArray)]) ?_ 0 _ rfl; (with_reducible repeat (first | refine zN ?_ _ | refine zD ?_ | refine zA ?_ _)); exact BK528.out) Tryz.underlying61 rfl (by kernel_rfl)) rfl ?_
    exact ⟨by first | rfl | (simp [errW_none, errW_some] <;> rfl) | (simp [*, errW_none, errW_some] <;> rfl), by repeat (first | (with_reducible first | exact HB.out | apply yA | apply yN | apply yD | refine below_set ?_ GE528.out) | exact HB.out)⟩
  · replace c2 := Bool.eq_false_iff.mpr c2
    subst c2
    have H1 : (some (2, 0, (⟨#[]⟩ : ByteArray))) = some (r1, r2, r3) := by rw [if_neg (show ¬ (false = true) by decide)] at H; exact H
    clear H
    have H := H1
    clear H1
    simp only [Option.some.injEq, Prod.mk.injEq] at H
    obtain ⟨rfl, rfl, rfl⟩ := H
    go_enter Tryz.func142, Tryz.ntmps142
    go_wp2_with (first | ((with_reducible refine gate_dst (N := 2) rfl ?_); refine box_event ?hg (N := 2) ?hd (cs := #[.int .i64 0, .int .i64 0, .string (⟨#[]⟩ : ByteArray)]) (t := 61) ?hr ?_; (case hd => rfl); (case hg => rfl); (case hr => first | (go_simp; done) | (go_simp; rfl)); intro gb528 hg w5 hbox hb; have n0_ := aM (below_step (by repeat (first | (with_reducible first | exact HB.out | apply yA | apply yN | apply yD) | exact HB.out)) hb); have n1_ := aM (hbox); have n2_ := aM ((by rw [hg]; exact (below_size (by repeat (first | (with_reducible first | exact HB.out | apply yA | apply yN | apply yD) | exact HB.out))) : w.heap.size ≤ gb528)); have n3_ := n2_; clear HB; have HB := n0_; have BK528 := n1_; have GW528 := n2_; have GE528 := n3_; clear n0_ n1_ n2_ n3_; clear hb hbox hg; have hcz6_0 : w5.cell? ⟨gb528, 0, none⟩ = some (.int .i64 0) := (blk_cell BK528.out 0).trans rfl; have hcz6_1 : w5.cell? ⟨gb528, 1, none⟩ = some (.int .i64 0) := (blk_cell BK528.out 1).trans rfl; have hcz6_2 : w5.cell? ⟨gb528, 2, none⟩ = some (.string (⟨#[]⟩ : ByteArray)) := (blk_cell BK528.out 2).trans rfl; have hfz6_0 := blk_frozen BK528.out 0; have hfz6_1 := blk_frozen BK528.out 1; have hfz6_2 := blk_frozen BK528.out 2))
    refine bodyPost_ret (results_cell_row rfl _ _ gb528 61 #[.int .i64 2, .int .i64 0, .string (⟨#[]⟩ : ByteArray)] (0, 0) _ rfl (by (with_reducible repeat (first | refine zN ?_ _ | refine zD ?_ | refine zA ?_ _)); refine blk_put (cs := #[.int .i64 2, .int .i64 0, .string (⟨#[]⟩ : ByteArray)]) ?_ 2 _ rfl; (with_reducible repeat (first | refine zN ?_ _ | refine zD ?_ | refine zA ?_ _)); refine blk_put (cs := #[.int .i64 2, .int .i64 0, .string (⟨#[]⟩ : ByteArray)]) ?_ 1 _ rfl; (with_reducible repeat (first | refine zN ?_ _ | refine zD ?_ | refine zA ?_ _)); refine blk_put (cs := #[.int .i64 0, .int .i64 0, .string (⟨#[]⟩ : ByteArray)]) ?_ 0 _ rfl; (with_reducible repeat (first | refine zN ?_ _ | refine zD ?_ | refine zA ?_ _)); exact BK528.out) Tryz.underlying61 rfl (by kernel_rfl)) rfl ?_
    exact ⟨by first | rfl | (simp [errW_none, errW_some] <;> rfl) | (simp [*, errW_none, errW_some] <;> rfl), by repeat (first | (with_reducible first | exact HB.out | apply yA | apply yN | apply yD | refine below_set ?_ GE528.out) | exact HB.out)⟩
def tacticianref01_Text.f (a0 : ByteArray) : Option (Int × Int × ByteArray) := some (3, 0, a0)
set_option maxHeartbeats 8000000 in
set_option maxRecDepth 100000 in
theorem tacticianref01_Text.calls (a0 : ByteArray) (r1 : Int) (r2 : Int) (r3 : ByteArray) (w : World) (h : tacticianref01_Text.f a0 = some (r1, r2, r3)) :
  Calls Tryz.prog 143 #[.string a0] w fun e w' => e = .returned (.agg #[.int .i64 r1, .int .i64 r2, .string r3]) ∧ Below w.heap.size w w' := by
 have hu61 := Tryz.underlying61
 have HB := aM (Below.refl w.heap.size w)
 have H : (some (3, 0, a0)) = some (r1, r2, r3) := h
 clear h
 simp only [Option.some.injEq, Prod.mk.injEq] at H
 obtain ⟨rfl, rfl, rfl⟩ := H
 go_enter Tryz.func143, Tryz.ntmps143
 go_wp2_with (first | ((with_reducible refine gate_dst (N := 2) rfl ?_); refine box_event ?hg (N := 2) ?hd (cs := #[.int .i64 0, .int .i64 0, .string (⟨#[]⟩ : ByteArray)]) (t := 61) ?hr ?_; (case hd => rfl); (case hg => rfl); (case hr => first | (go_simp; done) | (go_simp; rfl)); intro gb529 hg w2 hbox hb; have n0_ := aM (below_step (by repeat (first | (with_reducible first | exact HB.out | apply yA | apply yN | apply yD) | exact HB.out)) hb); have n1_ := aM (hbox); have n2_ := aM ((by rw [hg]; exact (below_size (by repeat (first | (with_reducible first | exact HB.out | apply yA | apply yN | apply yD) | exact HB.out))) : w.heap.size ≤ gb529)); have n3_ := n2_; clear HB; have HB := n0_; have BK529 := n1_; have GW529 := n2_; have GE529 := n3_; clear n0_ n1_ n2_ n3_; clear hb hbox hg; have hcz3_0 : w2.cell? ⟨gb529, 0, none⟩ = some (.int .i64 0) := (blk_cell BK529.out 0).trans rfl; have hcz3_1 : w2.cell? ⟨gb529, 1, none⟩ = some (.int .i64 0) := (blk_cell BK529.out 1).trans rfl; have hcz3_2 : w2.cell? ⟨gb529, 2, none⟩ = some (.string (⟨#[]⟩ : ByteArray)) := (blk_cell BK529.out 2).trans rfl; have hfz3_0 := blk_frozen BK529.out 0; have hfz3_1 := blk_frozen BK529.out 1; have hfz3_2 := blk_frozen BK529.out 2))
 refine bodyPost_ret (results_cell_row rfl _ _ gb529 61 #[.int .i64 3, .int .i64 0, .string a0] (0, 0) _ rfl (by (with_reducible repeat (first | refine zN ?_ _ | refine zD ?_ | refine zA ?_ _)); refine blk_put (cs := #[.int .i64 3, .int .i64 0, .string (⟨#[]⟩ : ByteArray)]) ?_ 2 _ rfl; (with_reducible repeat (first | refine zN ?_ _ | refine zD ?_ | refine zA ?_ _)); refine blk_put (cs := #[.int .i64 3, .int .i64 0, .string (⟨#[]⟩ : ByteArray)]) ?_ 1 _ rfl; (with_reducible repeat (first | refine zN ?_ _ | refine zD ?_ | refine zA ?_ _)); refine blk_put (cs := #[.int .i64 0, .int .i64 0, .string (⟨#[]⟩ : ByteArray)]) ?_ 0 _ rfl; (with_reducible repeat (first | refine zN ?_ _ | refine zD ?_ | refine zA ?_ _)); exact BK529.out) Tryz.underlying61 rfl (by kernel_rfl)) rfl ?_
 exact ⟨by first | rfl | (simp [errW_none, errW_some] <;> rfl) | (simp [*, errW_none, errW_some] <;> rfl), by repeat (first | (with_reducible first | exact HB.out | apply yA | apply yN | apply yD | refine below_set ?_ GE529.out) | exact HB.out)⟩
def tacticianref01_Digits.f : Nat → Int → Option (ByteArray)
  | 0, _ => none
  | k + 1, a0 => if a0 < 0 then ((some (([(wrap64 (48 - (Int.tmod a0 10))) % 256] : List Int) : List Int)).bind fun y630 => (if a0 > (-10) then (if 1 + (strOfNums y630).size ≤ 9223372036854775807 then (some ((⟨#[45]⟩ : ByteArray) ++ (strOfNums y630))) else (none)) else ((tacticianref01_Digits.f k (wrap64 (Int.tdiv a0 10))).bind fun t633 => (if t633.size + (strOfNums y630).size ≤ 9223372036854775807 then (some (t633 ++ (strOfNums y630))) else (none))))) else ((some (([(wrap64 (48 + (Int.tmod a0 10))) % 256] : List Int) : List Int)).bind fun y634 => (if a0 < 10 then (some (strOfNums y634)) else ((tacticianref01_Digits.f k (wrap64 (Int.tdiv a0 10))).bind fun t637 => (if t637.size + (strOfNums y634).size ≤ 9223372036854775807 then (some (t637 ++ (strOfNums y634))) else (none)))))
set_option maxHeartbeats 8000000 in
set_option maxRecDepth 100000 in
theorem tacticianref01_Digits.calls (k : Nat) : ∀ (a0 : Int) (r : ByteArray) (w : World) (h : tacticianref01_Digits.f k a0 = some r),
    Calls Tryz.prog 151 #[.int .i64 a0] w fun e w' => e = .returned (.string r) ∧ Below w.heap.size w w' := by
  induction k using Nat.strongRecOn with
  | _ k ih =>
  intro a0 r w h
  cases k with
  | zero => exact absurd h (by simp [tacticianref01_Digits.f])
  | succ k =>
  simp only [tacticianref01_Digits.f] at h
  have HB := aM (Below.refl w.heap.size w)
  have H : (if a0 < 0 then ((some (([(wrap64 (48 - (Int.tmod a0 10))) % 256] : List Int) : List Int)).bind fun y630 => (if a0 > (-10) then (if 1 + (strOfNums y630).size ≤ 9223372036854775807 then (some ((⟨#[45]⟩ : ByteArray) ++ (strOfNums y630))) else (none)) else ((tacticianref01_Digits.f k (wrap64 (Int.tdiv a0 10))).bind fun t633 => (if t633.size + (strOfNums y630).size ≤ 9223372036854775807 then (some (t633 ++ (strOfNums y630))) else (none))))) else ((some (([(wrap64 (48 + (Int.tmod a0 10))) % 256] : List Int) : List Int)).bind fun y634 => (if a0 < 10 then (some (strOfNums y634)) else ((tacticianref01_Digits.f k (wrap64 (Int.tdiv a0 10))).bind fun t637 => (if t637.size + (strOfNums y634).size ≤ 9223372036854775807 then (some (t637 ++ (strOfNums y634))) else (none)))))) = some r := h
  clear h
  by_cases c2 : a0 < 0
  · rw [if_pos c2] at H
    have c2b0 : decide (a0 < 0) = true := decide_eq_true c2
    clear c2
    obtain ⟨y630, hy630⟩ : ∃ y_ : List Int, y_ = (([(wrap64 (48 - (Int.tmod a0 10))) % 256] : List Int)) := ⟨_, rfl⟩
    replace H : (if a0 > (-10) then (if 1 + (strOfNums y630).size ≤ 9223372036854775807 then (some ((⟨#[45]⟩ : ByteArray) ++ (strOfNums y630))) else (none)) else ((tacticianref01_Digits.f k (wrap64 (Int.tdiv a0 10))).bind fun t633 => (if t633.size + (strOfNums y630).size ≤ 9223372036854775807 then (some (t633 ++ (strOfNums y630))) else (none)))) = some r := by first | (rw [hy630]; with_reducible exact H) | (have H2_ := (Option.bind_some _ _).symm.trans H; rw [hy630]; with_reducible exact H2_) | (have H2_ := (Option.bind_some _ _).symm.trans H; with_reducible exact H2_) | with_reducible exact H | (rw [hy630]; exact H) | exact H
    have Ny630 := aM hy630
    clear hy630
    by_cases c3 : a0 > (-10)
    · rw [if_pos c3] at H
      have c3b0 : decide ((-10) < a0) = true := decide_eq_true c3
      clear c3
      by_cases c4 : 1 + (strOfNums y630).size ≤ 9223372036854775807
      · rw [if_pos c4] at H
        have c4b0 := eq_true c4
        have c4b1 : decide (1 + (strOfNums y630).size ≤ 9223372036854775807) = true := decide_eq_true c4
        try have c4b2 : (9223372036854775807 < 1 + (strOfNums y630).size) = False := eq_false (Nat.not_lt.2 c4)
        obtain rfl := Option.some.inj H
        go_enter Tryz.func151, Tryz.ntmps151
        go_wp2_with (first | ((with_reducible refine gate_dst (N := 11) rfl ?_); refine Kd.R_lit (Kd.int .u8) _ 5 ?hg (N := 11) ?hd (xs := ([(wrap64 (48 - (Int.tmod a0 10))) % 256] : List Int)) (inner := [.int .u8 ((wrap64 (48 - (Int.tmod a0 10))) % 256)]) (ok := fun _ => True) (okp := fun _ => True) ?hr ?hp (fun _ hk => hk) trivial (Below.refl _ _) (Nat.le_refl _) (by simp) ?_; (case hd => rfl); (case hg => rfl); (case hr => first | (go_simp; done) | (go_simp; rfl)); (case hp => exact (Reps.one (show Kd.M (Kd.int .u8) _ _ _ ((wrap64 (48 - (Int.tmod a0 10))) % 256) [.int .u8 ((wrap64 (48 - (Int.tmod a0 10))) % 256)] from rfl) (Reps.none _ _))); intro v631 w5 ho6 hb hg_ hnew_; clear hg_ hnew_; (first | rw [← Ny630.out] at ho6 | (simp only [Int.reduceToNat] at ho6; rw [← Ny630.out] at ho6)); have n0_ := aM (Kd.R_lower ho6 (below_size (by repeat (first | (with_reducible first | exact HB.out | apply yA | apply yN | apply yD) | exact HB.out)))); have n1_ := aM (below_step (by repeat (first | (with_reducible first | exact HB.out | apply yA | apply yN | apply yD) | exact HB.out)) hb); clear HB; have HO632 := n0_; have HB := n1_; clear n0_ n1_; clear hb ho6; have hcv7 := own_string (P := Tryz.prog) Tryz.underlying100 Tryz.underlying5 Tryz.underlying9 (Kd.own_of_R HO632.out)))
        go_ret
        exact ⟨by first | rfl | (simp [errW_none, errW_some] <;> rfl) | (simp [*, errW_none, errW_some] <;> rfl), by repeat (first | (with_reducible first | exact HB.out | apply yA | apply yN | apply yD) | exact HB.out)⟩
      · rw [if_neg c4] at H
        exact absurd H (by simp)
    · rw [if_neg c3] at H
      have c3b0 : decide ((-10) < a0) = false := decide_eq_false c3
      clear c3
      replace H := Option.bind_eq_some_iff.mp H
      obtain ⟨t633, A80, H⟩ := H
      replace H : (if t633.size + (strOfNums y630).size ≤ 9223372036854775807 then (some (t633 ++ (strOfNums y630))) else (none)) = some r := H
      have A8 := aM A80
      clear A80
      by_cases c9 : t633.size + (strOfNums y630).size ≤ 9223372036854775807
      · rw [if_pos c9] at H
        have c9b0 := eq_true c9
        have c9b1 : decide (t633.size + (strOfNums y630).size ≤ 9223372036854775807) = true := decide_eq_true c9
        try have c9b2 : (9223372036854775807 < t633.size + (strOfNums y630).size) = False := eq_false (Nat.not_lt.2 c9)
        obtain rfl := Option.some.inj H
        go_enter Tryz.func151, Tryz.ntmps151
        go_wp2_with (first | ((with_reducible refine gate_dst (N := 11) rfl ?_); refine Kd.R_lit (Kd.int .u8) _ 5 ?hg (N := 11) ?hd (xs := ([(wrap64 (48 - (Int.tmod a0 10))) % 256] : List Int)) (inner := [.int .u8 ((wrap64 (48 - (Int.tmod a0 10))) % 256)]) (ok := fun _ => True) (okp := fun _ => True) ?hr ?hp (fun _ hk => hk) trivial (Below.refl _ _) (Nat.le_refl _) (by simp) ?_; (case hd => rfl); (case hg => rfl); (case hr => first | (go_simp; done) | (go_simp; rfl)); (case hp => exact (Reps.one (show Kd.M (Kd.int .u8) _ _ _ ((wrap64 (48 - (Int.tmod a0 10))) % 256) [.int .u8 ((wrap64 (48 - (Int.tmod a0 10))) % 256)] from rfl) (Reps.none _ _))); intro v631 w10 ho11 hb hg_ hnew_; clear hg_ hnew_; (first | rw [← Ny630.out] at ho11 | (simp only [Int.reduceToNat] at ho11; rw [← Ny630.out] at ho11)); have n0_ := aM (Kd.R_lower ho11 (below_size (by repeat (first | (with_reducible first | exact HB.out | apply yA | apply yN | apply yD) | exact HB.out)))); have n1_ := aM (below_step (by repeat (first | (with_reducible first | exact HB.out | apply yA | apply yN | apply yD) | exact HB.out)) hb); clear HB; have HO632 := n0_; have HB := n1_; clear n0_ n1_; clear hb ho11; have hcv12 := own_string (P := Tryz.prog) Tryz.underlying100 Tryz.underlying5 Tryz.underlying9 (Kd.own_of_R HO632.out)) | ((with_reducible refine gate_callee (f := 151) rfl ?_); refine goesL_ (some 19) rfl rfl Tryz.func151 (by kernel_rfl) rfl #[.int .i64 (wrap64 (Int.tdiv a0 10))] rfl (by (try simp only [List.map_toArray, List.map_cons, List.map_nil]); first | done | rfl | (simp only [List.length_drop, List.length_take]; rfl)) ?_; (with_reducible refine (ih k (by omega) (wrap64 (Int.tdiv a0 10)) t633 _ A8.out).mono ?_); rintro e w13 ⟨rfl, hb⟩; refine ⟨_, rfl, ?_⟩; have n0_ := aM (Kd.R_below (by (with_reducible repeat (first | apply Kd.R_alloc | apply Kd.R_drewN | apply Kd.R_drew)); exact HO632.out) hb); have n1_ := aM (below_step (by repeat (first | (with_reducible first | exact HB.out | apply yA | apply yN | apply yD) | exact HB.out)) hb); clear HO632; clear HB; have HO632 := n0_; have HB := n1_; clear n0_ n1_; (try clear hb); (try clear hb2); (try clear hk); (try clear hi)))
        go_ret
        exact ⟨by first | rfl | (simp [errW_none, errW_some] <;> rfl) | (simp [*, errW_none, errW_some] <;> rfl), by repeat (first | (with_reducible first | exact HB.out | apply yA | apply yN | apply yD) | exact HB.out)⟩
      · rw [if_neg c9] at H
        exact absurd H (by simp)
  · rw [if_neg c2] at H
    have c2b0 : decide (a0 < 0) = false := decide_eq_false c2
    clear c2
    obtain ⟨y634, hy634⟩ : ∃ y_ : List Int, y_ = (([(wrap64 (48 + (Int.tmod a0 10))) % 256] : List Int)) := ⟨_, rfl⟩
    replace H : (if a0 < 10 then (some (strOfNums y634)) else ((tacticianref01_Digits.f k (wrap64 (Int.tdiv a0 10))).bind fun t637 => (if t637.size + (strOfNums y634).size ≤ 9223372036854775807 then (some (t637 ++ (strOfNums y634))) else (none)))) = some r := by first | (rw [hy634]; with_reducible exact H) | (have H2_ := (Option.bind_some _ _).symm.trans H; rw [hy634]; with_reducible exact H2_) | (have H2_ := (Option.bind_some _ _).symm.trans H; with_reducible exact H2_) | with_reducible exact H | (rw [hy634]; exact H) | exact H
    have Ny634 := aM hy634
    clear hy634
    by_cases c14 : a0 < 10
    · rw [if_pos c14] at H
      have c14b0 : decide (a0 < 10) = true := decide_eq_true c14
      clear c14
      obtain rfl := Option.some.inj H
      go_enter Tryz.func151, Tryz.ntmps151
      go_wp2_with (first | ((with_reducible refine gate_dst (N := 26) rfl ?_); refine Kd.R_lit (Kd.int .u8) _ 5 ?hg (N := 26) ?hd (xs := ([(wrap64 (48 + (Int.tmod a0 10))) % 256] : List Int)) (inner := [.int .u8 ((wrap64 (48 + (Int.tmod a0 10))) % 256)]) (ok := fun _ => True) (okp := fun _ => True) ?hr ?hp (fun _ hk => hk) trivial (Below.refl _ _) (Nat.le_refl _) (by simp) ?_; (case hd => rfl); (case hg => rfl); (case hr => first | (go_simp; done) | (go_simp; rfl)); (case hp => exact (Reps.one (show Kd.M (Kd.int .u8) _ _ _ ((wrap64 (48 + (Int.tmod a0 10))) % 256) [.int .u8 ((wrap64 (48 + (Int.tmod a0 10))) % 256)] from rfl) (Reps.none _ _))); intro v635 w15 ho16 hb hg_ hnew_; clear hg_ hnew_; (first | rw [← Ny634.out] at ho16 | (simp only [Int.reduceToNat] at ho16; rw [← Ny634.out] at ho16)); have n0_ := aM (Kd.R_lower ho16 (below_size (by repeat (first | (with_reducible first | exact HB.out | apply yA | apply yN | apply yD) | exact HB.out)))); have n1_ := aM (below_step (by repeat (first | (with_reducible first | exact HB.out | apply yA | apply yN | apply yD) | exact HB.out)) hb); clear HB; have HO636 := n0_; have HB := n1_; clear n0_ n1_; clear hb ho16; have hcv17 := own_string (P := Tryz.prog) Tryz.underlying100 Tryz.underlying5 Tryz.underlying9 (Kd.own_of_R HO636.out)))
      go_ret
      exact ⟨by first | rfl | (simp [errW_none, errW_some] <;> rfl) | (simp [*, errW_none, errW_some] <;> rfl), by repeat (first | (with_reducible first | exact HB.out | apply yA | apply yN | apply yD) | exact HB.out)⟩
    · rw [if_neg c14] at H
      have c14b0 : decide (a0 < 10) = false := decide_eq_false c14
      clear c14
      replace H := Option.bind_eq_some_iff.mp H
      obtain ⟨t637, A180, H⟩ := H
      replace H : (if t637.size + (strOfNums y634).size ≤ 9223372036854775807 then (some (t637 ++ (strOfNums y634))) else (none)) = some r := H
      have A18 := aM A180
      clear A180
      by_cases c19 : t637.size + (strOfNums y634).size ≤ 9223372036854775807
      · rw [if_pos c19] at H
        have c19b0 := eq_true c19
        have c19b1 : decide (t637.size + (strOfNums y634).size ≤ 9223372036854775807) = true := decide_eq_true c19
        try have c19b2 : (9223372036854775807 < t637.size + (strOfNums y634).size) = False := eq_false (Nat.not_lt.2 c19)
        obtain rfl := Option.some.inj H
        go_enter Tryz.func151, Tryz.ntmps151
        go_wp2_with (first | ((with_reducible refine gate_dst (N := 26) rfl ?_); refine Kd.R_lit (Kd.int .u8) _ 5 ?hg (N := 26) ?hd (xs := ([(wrap64 (48 + (Int.tmod a0 10))) % 256] : List Int)) (inner := [.int .u8 ((wrap64 (48 + (Int.tmod a0 10))) % 256)]) (ok := fun _ => True) (okp := fun _ => True) ?hr ?hp (fun _ hk => hk) trivial (Below.refl _ _) (Nat.le_refl _) (by simp) ?_; (case hd => rfl); (case hg => rfl); (case hr => first | (go_simp; done) | (go_simp; rfl)); (case hp => exact (Reps.one (show Kd.M (Kd.int .u8) _ _ _ ((wrap64 (48 + (Int.tmod a0 10))) % 256) [.int .u8 ((wrap64 (48 + (Int.tmod a0 10))) % 256)] from rfl) (Reps.none _ _))); intro v635 w20 ho21 hb hg_ hnew_; clear hg_ hnew_; (first | rw [← Ny634.out] at ho21 | (simp only [Int.reduceToNat] at ho21; rw [← Ny634.out] at ho21)); have n0_ := aM (Kd.R_lower ho21 (below_size (by repeat (first | (with_reducible first | exact HB.out | apply yA | apply yN | apply yD) | exact HB.out)))); have n1_ := aM (below_step (by repeat (first | (with_reducible first | exact HB.out | apply yA | apply yN | apply yD) | exact HB.out)) hb); clear HB; have HO636 := n0_; have HB := n1_; clear n0_ n1_; clear hb ho21; have hcv22 := own_string (P := Tryz.prog) Tryz.underlying100 Tryz.underlying5 Tryz.underlying9 (Kd.own_of_R HO636.out)) | ((with_reducible refine gate_callee (f := 151) rfl ?_); refine goesL_ (some 33) rfl rfl Tryz.func151 (by kernel_rfl) rfl #[.int .i64 (wrap64 (Int.tdiv a0 10))] rfl (by (try simp only [List.map_toArray, List.map_cons, List.map_nil]); first | done | rfl | (simp only [List.length_drop, List.length_take]; rfl)) ?_; (with_reducible refine (ih k (by omega) (wrap64 (Int.tdiv a0 10)) t637 _ A18.out).mono ?_); rintro e w23 ⟨rfl, hb⟩; refine ⟨_, rfl, ?_⟩; have n0_ := aM (Kd.R_below (by (with_reducible repeat (first | apply Kd.R_alloc | apply Kd.R_drewN | apply Kd.R_drew)); exact HO636.out) hb); have n1_ := aM (below_step (by repeat (first | (with_reducible first | exact HB.out | apply yA | apply yN | apply yD) | exact HB.out)) hb); clear HO636; clear HB; have HO636 := n0_; have HB := n1_; clear n0_ n1_; (try clear hb); (try clear hb2); (try clear hk); (try clear hi)))
        go_ret
        exact ⟨by first | rfl | (simp [errW_none, errW_some] <;> rfl) | (simp [*, errW_none, errW_some] <;> rfl), by repeat (first | (with_reducible first | exact HB.out | apply yA | apply yN | apply yD) | exact HB.out)⟩
      · rw [if_neg c19] at H
        exact absurd H (by simp)
theorem strOf_one (x : Int) : strOfNums [x] = ofL [UInt8.ofNat x.toNat] := by
  apply ba_ext
  rw [ofL_data]
  simp [strOfNums]
theorem tacticianref01_Digits.base (n : Int) (hn : n.natAbs < 10) (k : Nat) (hk : 0 < k) : tacticianref01_Digits.f k n = some (ofL (Lib.itoa n)) := by
  obtain ⟨k, rfl⟩ : ∃ m, k = m + 1 := ⟨k - 1, by omega⟩
  simp only [tacticianref01_Digits.f, Option.bind_some]
  rcases itoa_cases n with ⟨h0, e⟩ | ⟨h0, e⟩
  · have e1 : (wrap64 (48 - n.tmod 10)) % 256 = 48 + (n.natAbs : Int) := by
      have : n.tmod 10 = n := by obtain ⟨m, rfl⟩ : ∃ m : Nat, n = -(m : Int) := ⟨n.natAbs, by omega⟩
                                 rw [Int.neg_tmod, Int.tmod_eq_emod_of_nonneg (by omega)]; omega
      rw [this]; unfold wrap64; omega
    rw [if_pos h0, if_pos (by omega), e1, strOf_one, if_pos (by rw [ofL_size]; exact (show 1 + 1 ≤ 9223372036854775807 by decide)), e, Lib.decDigits_one hn]
    apply congrArg some
    apply ba_ext
    rw [append_data, ofL_data, ofL_data, show (48 + (n.natAbs : Int)).toNat = 48 + n.natAbs by omega]
    rfl
  · have e1 : (wrap64 (48 + n.tmod 10)) % 256 = 48 + (n.natAbs : Int) := by
      have : n.tmod 10 = n := by rw [Int.tmod_eq_emod_of_nonneg h0]; omega
      rw [this]; unfold wrap64; omega
    rw [if_neg (by omega), if_pos (by omega), e1, strOf_one, e, Lib.decDigits_one hn, show (48 + (n.natAbs : Int)).toNat = 48 + n.natAbs by omega]
theorem tacticianref01_Digits.at : ∀ (d : Nat) (n : Int), inI64 n = true → n.natAbs < 10 ^ (d + 1) → ∀ k, d < k → tacticianref01_Digits.f k n = some (ofL (Lib.itoa n)) := by
  intro d
  induction d with
  | zero =>
    intro n hi hn k hk
    exact tacticianref01_Digits.base n (by simpa using hn) k hk
  | succ d ih =>
    intro n hi hn k hk
    by_cases hs : n.natAbs < 10
    · exact tacticianref01_Digits.base n hs k (by omega)
    obtain ⟨k, rfl⟩ : ∃ m, k = m + 1 := ⟨k - 1, by omega⟩
    obtain ⟨i0, i1⟩ := inI64_bd hi
    have hd : Lib.decDigits n.natAbs = Lib.decDigits (n.natAbs / 10) ++ [UInt8.ofNat (48 + n.natAbs % 10)] := by rw [Lib.decDigits, dif_neg hs]
    have hq : (n.natAbs / 10) < 10 ^ (d + 1) := by rw [Nat.pow_succ] at hn; omega
    simp only [tacticianref01_Digits.f, Option.bind_some]
    rcases itoa_cases n with ⟨h0, e⟩ | ⟨h0, e⟩
    · obtain ⟨m, rfl⟩ : ∃ m : Nat, n = -(m : Int) := ⟨n.natAbs, by omega⟩
      have hm : (-(m : Int)).natAbs = m := by omega
      rw [hm] at hs hd hq e
      have e1 : (wrap64 (48 - (-(m : Int)).tmod 10)) % 256 = 48 + ((m % 10 : Nat) : Int) := by
        rw [Int.neg_tmod, Int.tmod_eq_emod_of_nonneg (by omega)]; unfold wrap64; omega
      have e2 : wrap64 ((-(m : Int)).tdiv 10) = -((m / 10 : Nat) : Int) := by
        rw [Int.neg_tdiv, Int.tdiv_eq_ediv_of_nonneg (by omega)]; unfold wrap64; omega
      have h2 := ih (-((m / 10 : Nat) : Int)) (inI64_mk (by omega) (by omega)) (by omega) k (by omega)
      have hit : Lib.itoa (-((m / 10 : Nat) : Int)) = 45 :: Lib.decDigits (m / 10) := Lib.itoa_neg _ (by omega)
      have hl := Lib.itoa_length_le (-((m / 10 : Nat) : Int)) (by omega) (by omega)
      rw [if_pos h0, if_neg (by omega), e1, strOf_one, e2, h2]
      simp only [Option.bind_some]
      rw [if_pos (by rw [ofL_size, ofL_size]; have : [UInt8.ofNat (48 + ((m % 10 : Nat) : Int)).toNat].length = 1 := rfl
                     omega), e, hd]
      apply congrArg some
      apply ba_ext
      rw [append_data, ofL_data, ofL_data, ofL_data, hit, show (48 + ((m % 10 : Nat) : Int)).toNat = 48 + m % 10 by omega]
      rfl
    · obtain ⟨m, rfl⟩ : ∃ m : Nat, n = (m : Int) := ⟨n.natAbs, by omega⟩
      have hm : ((m : Int)).natAbs = m := by omega
      rw [hm] at hs hd hq e
      have e1 : (wrap64 (48 + ((m : Int)).tmod 10)) % 256 = 48 + ((m % 10 : Nat) : Int) := by
        rw [Int.tmod_eq_emod_of_nonneg (by omega)]; unfold wrap64; omega
      have e2 : wrap64 (((m : Int)).tdiv 10) = ((m / 10 : Nat) : Int) := by
        rw [Int.tdiv_eq_ediv_of_nonneg (by omega)]; unfold wrap64; omega
      have h2 := ih ((m / 10 : Nat) : Int) (inI64_mk (by omega) (by omega)) (by omega) k (by omega)
      have hit : Lib.itoa ((m / 10 : Nat) : Int) = Lib.decDigits (m / 10) := Lib.itoa_nonneg _
      have hl := Lib.itoa_length_le ((m / 10 : Nat) : Int) (by omega) (by omega)
      rw [if_neg (by omega), if_neg (by omega), e1, strOf_one, e2, h2]
      simp only [Option.bind_some]
      rw [if_pos (by rw [ofL_size, ofL_size]; have : [UInt8.ofNat (48 + ((m % 10 : Nat) : Int)).toNat].length = 1 := rfl
                     omega), e, hd]
      apply congrArg some
      apply ba_ext
      rw [append_data, ofL_data, ofL_data, ofL_data, hit, show (48 + ((m % 10 : Nat) : Int)).toNat = 48 + m % 10 by omega]
def tacticianref01_Digits_s.f (a0 : Int) : Option (ByteArray) := if inI64 a0 = true then some (ofL (Lib.itoa a0)) else none
theorem tacticianref01_Digits_s.calls (a0 : Int) (r : ByteArray) (w : World) (h : tacticianref01_Digits_s.f a0 = some r) :
  Calls Tryz.prog 151 #[.int .i64 a0] w fun e w' => e = .returned (.string r) ∧ Below w.heap.size w w' := by
 unfold tacticianref01_Digits_s.f at h
 by_cases hs : inI64 a0 = true
 ·rw [if_pos hs] at h
  obtain rfl := Option.some.inj h
  obtain ⟨i0, i1⟩ := inI64_bd hs
  exact tacticianref01_Digits.calls 21 a0 _ w (tacticianref01_Digits.at 19 a0 hs (by rw [show (10 : Nat) ^ (19 + 1) = 100000000000000000000 from rfl]; omega) 21 (by omega))
 ·rw [if_neg hs] at h; cases h
def tacticianref01_String.l0 : Nat → ByteArray → Int → Int → Int → ByteArray → Option (ByteArray)
  | 0, _, _, _, _, _ => none
  | k + 1, x3, x4, x639000, x639001, x639002 => if x4 < (x639002.size : Int) then (if 0 ≤ x4 then (if x4 ≤ (wrap64 (x4 + 1)) then (if (wrap64 (x4 + 1)) ≤ (x639002.size : Int) then (if x3.size + (x639002.extract (x4 : Int).toNat ((wrap64 (x4 + 1)) : Int).toNat).size ≤ 9223372036854775807 then (if (bt x639002 x4) = 39 then (if (x3 ++ (x639002.extract (x4 : Int).toNat ((wrap64 (x4 + 1)) : Int).toNat)).size + 1 ≤ 9223372036854775807 then (tacticianref01_String.l0 k ((x3 ++ (x639002.extract (x4 : Int).toNat ((wrap64 (x4 + 1)) : Int).toNat)) ++ (⟨#[39]⟩ : ByteArray)) (wrap64 (x4 + 1)) x639000 x639001 x639002) else (none)) else (tacticianref01_String.l0 k (x3 ++ (x639002.extract (x4 : Int).toNat ((wrap64 (x4 + 1)) : Int).toNat)) (wrap64 (x4 + 1)) x639000 x639001 x639002)) else (none)) else (none)) else (none)) else (none)) else (if x3.size + 1 ≤ 9223372036854775807 then (some (x3 ++ (⟨#[39]⟩ : ByteArray))) else (none))
def tacticianref01_String.f (k : Nat) (a0_0 : Int) (a0_1 : Int) (a0_2 : ByteArray) : Option (ByteArray) := if a0_0 = 1 then ((tacticianref01_Digits_s.f a0_1).bind fun t639 => (some t639)) else (if a0_0 = 2 then (if a0_1 = 1 then (some (⟨#[116, 114, 117, 101]⟩ : ByteArray)) else (some (⟨#[102, 97, 108, 115, 101]⟩ : ByteArray))) else (if a0_0 = 3 then (tacticianref01_String.l0 k (⟨#[39]⟩ : ByteArray) 0 a0_0 a0_1 a0_2) else (some (⟨#[110, 117, 108, 108]⟩ : ByteArray))))
set_option maxHeartbeats 8000000 in
set_option maxRecDepth 100000 in
theorem tacticianref01_String.calls (k : Nat) (a0_0 : Int) (a0_1 : Int) (a0_2 : ByteArray) (r : ByteArray) (w : World) (h : tacticianref01_String.f k a0_0 a0_1 a0_2 = some r) :
    Calls Tryz.prog 119 #[.agg #[.int .i64 a0_0, .int .i64 a0_1, .string a0_2]] w fun e w' => e = .returned (.string r) ∧ Below w.heap.size w w' := by
  have hu61 := Tryz.underlying61
  have HB := aM (Below.refl w.heap.size w)
  have H : (if a0_0 = 1 then ((tacticianref01_Digits_s.f a0_1).bind fun t639 => (some t639)) else (if a0_0 = 2 then (if a0_1 = 1 then (some (⟨#[116, 114, 117, 101]⟩ : ByteArray)) else (some (⟨#[102, 97, 108, 115, 101]⟩ : ByteArray))) else (if a0_0 = 3 then (tacticianref01_String.l0 k (⟨#[39]⟩ : ByteArray) 0 a0_0 a0_1 a0_2) else (some (⟨#[110, 117, 108, 108]⟩ : ByteArray))))) = some r := h
  clear h
  by_cases c2 : a0_0 = 1
  · rw [if_pos c2] at H
    have c2b0 : (a0_0 == 1) = true := beq_iff_eq.mpr c2
    have c2b1 : (a0_0 != 1) = false := bne_eq_false_iff_eq.mpr c2
    clear c2
    replace H := Option.bind_eq_some_iff.mp H
    obtain ⟨t639, A30, H⟩ := H
    replace H : (some t639) = some r := H
    have A3 := aM A30
    clear A30
    obtain rfl := Option.some.inj H
    go_enter Tryz.func119, Tryz.ntmps119
    go_wp2_with (first | ((with_reducible refine gate_dst (N := 1) rfl ?_); refine box_event ?hg (N := 1) ?hd (cs := #[.int .i64 a0_0, .int .i64 a0_1, .string a0_2]) (t := 61) ?hr ?_; (case hd => rfl); (case hg => rfl); (case hr => first | (go_simp; done) | (go_simp; rfl)); intro gb638 hg w4 hbox hb; have n0_ := aM (below_step (by repeat (first | (with_reducible first | exact HB.out | apply yA | apply yN | apply yD) | exact HB.out)) hb); have n1_ := aM (hbox); have n2_ := aM ((by rw [hg]; exact (below_size (by repeat (first | (with_reducible first | exact HB.out | apply yA | apply yN | apply yD) | exact HB.out))) : w.heap.size ≤ gb638)); have n3_ := n2_; clear HB; have HB := n0_; have BK638 := n1_; have GW638 := n2_; have GE638 := n3_; clear n0_ n1_ n2_ n3_; clear hb hbox hg; have hcz5_0 : w4.cell? ⟨gb638, 0, none⟩ = some (.int .i64 a0_0) := (blk_cell BK638.out 0).trans rfl; have hcz5_1 : w4.cell? ⟨gb638, 1, none⟩ = some (.int .i64 a0_1) := (blk_cell BK638.out 1).trans rfl; have hcz5_2 : w4.cell? ⟨gb638, 2, none⟩ = some (.string a0_2) := (blk_cell BK638.out 2).trans rfl; have hfz5_0 := blk_frozen BK638.out 0; have hfz5_1 := blk_frozen BK638.out 1; have hfz5_2 := blk_frozen BK638.out 2) | ((with_reducible refine gate_callee (f := 151) rfl ?_); refine goesL_ (some 11) rfl rfl Tryz.func151 (by kernel_rfl) rfl #[.int .i64 a0_1] rfl (by (try simp only [List.map_toArray, List.map_cons, List.map_nil]); first | done | rfl | (simp only [List.length_drop, List.length_take]; rfl)) ?_; (with_reducible refine (tacticianref01_Digits_s.calls a0_1 t639 _ A3.out).mono ?_); rintro e w6 ⟨rfl, hb⟩; refine ⟨_, rfl, ?_⟩; have n0_ := aM (blk_below (g := gb638) (o := .cells #[.int .i64 a0_0, .int .i64 a0_1, .string a0_2] 61 (0, 0)) (by (with_reducible repeat (first | refine zN ?_ _ | refine zD ?_ | refine zA ?_ _)); exact BK638.out) hb); have n1_ := aM (below_step (by repeat (first | (with_reducible first | exact HB.out | apply yA | apply yN | apply yD | refine below_set ?_ GE638.out) | exact HB.out)) hb); clear BK638; clear HB; have BK638 := n0_; have HB := n1_; clear n0_ n1_; (try clear hb); (try clear hb2); (try clear hk); (try clear hi)))
    go_ret
    exact ⟨by first | rfl | (simp [errW_none, errW_some] <;> rfl) | (simp [*, errW_none, errW_some] <;> rfl), by repeat (first | (with_reducible first | exact HB.out | apply yA | apply yN | apply yD | refine below_set ?_ GE638.out) | exact HB.out)⟩
  · rw [if_neg c2] at H
    have c2b0 : (a0_0 == 1) = false := beq_eq_false_iff_ne.mpr c2
    have c2b1 : (a0_0 != 1) = true := bne_iff_ne.mpr c2
    by_cases c7 : a0_0 = 2
    · rw [if_pos c7] at H
      have c7b0 : (a0_0 == 2) = true := beq_iff_eq.mpr c7
      have c7b1 : (a0_0 != 2) = false := bne_eq_false_iff_eq.mpr c7
      clear c7
      by_cases c8 : a0_1 = 1
      · rw [if_pos c8] at H
        have c8b0 : (a0_1 == 1) = true := beq_iff_eq.mpr c8
        have c8b1 : (a0_1 != 1) = false := bne_eq_false_iff_eq.mpr c8
        clear c8
        obtain rfl := Option.some.inj H
        go_enter Tryz.func119, Tryz.ntmps119
        go_wp2_with (first | ((with_reducible refine gate_dst (N := 1) rfl ?_); refine box_event ?hg (N := 1) ?hd (cs := #[.int .i64 a0_0, .int .i64 a0_1, .string a0_2]) (t := 61) ?hr ?_; (case hd => rfl); (case hg => rfl); (case hr => first | (go_simp; done) | (go_simp; rfl)); intro gb638 hg w9 hbox hb; have n0_ := aM (below_step (by repeat (first | (with_reducible first | exact HB.out | apply yA | apply yN | apply yD) | exact HB.out)) hb); have n1_ := aM (hbox); have n2_ := aM ((by rw [hg]; exact (below_size (by repeat (first | (with_reducible first | exact HB.out | apply yA | apply yN | apply yD) | exact HB.out))) : w.heap.size ≤ gb638)); have n3_ := n2_; clear HB; have HB := n0_; have BK638 := n1_; have GW638 := n2_; have GE638 := n3_; clear n0_ n1_ n2_ n3_; clear hb hbox hg; have hcz10_0 : w9.cell? ⟨gb638, 0, none⟩ = some (.int .i64 a0_0) := (blk_cell BK638.out 0).trans rfl; have hcz10_1 : w9.cell? ⟨gb638, 1, none⟩ = some (.int .i64 a0_1) := (blk_cell BK638.out 1).trans rfl; have hcz10_2 : w9.cell? ⟨gb638, 2, none⟩ = some (.string a0_2) := (blk_cell BK638.out 2).trans rfl; have hfz10_0 := blk_frozen BK638.out 0; have hfz10_1 := blk_frozen BK638.out 1; have hfz10_2 := blk_frozen BK638.out 2))
        go_ret
        exact ⟨by first | rfl | (simp [errW_none, errW_some] <;> rfl) | (simp [*, errW_none, errW_some] <;> rfl), by repeat (first | (with_reducible first | exact HB.out | apply yA | apply yN | apply yD | refine below_set ?_ GE638.out) | exact HB.out)⟩
      · rw [if_neg c8] at H
        have c8b0 : (a0_1 == 1) = false := beq_eq_false_iff_ne.mpr c8
        have c8b1 : (a0_1 != 1) = true := bne_iff_ne.mpr c8
        obtain rfl := Option.some.inj H
        go_enter Tryz.func119, Tryz.ntmps119
        go_wp2_with (first | ((with_reducible refine gate_dst (N := 1) rfl ?_); refine box_event ?hg (N := 1) ?hd (cs := #[.int .i64 a0_0, .int .i64 a0_1, .string a0_2]) (t := 61) ?hr ?_; (case hd => rfl); (case hg => rfl); (case hr => first | (go_simp; done) | (go_simp; rfl)); intro gb638 hg w11 hbox hb; have n0_ := aM (below_step (by repeat (first | (with_reducible first | exact HB.out | apply yA | apply yN | apply yD) | exact HB.out)) hb); have n1_ := aM (hbox); have n2_ := aM ((by rw [hg]; exact (below_size (by repeat (first | (with_reducible first | exact HB.out | apply yA | apply yN | apply yD) | exact HB.out))) : w.heap.size ≤ gb638)); have n3_ := n2_; clear HB; have HB := n0_; have BK638 := n1_; have GW638 := n2_; have GE638 := n3_; clear n0_ n1_ n2_ n3_; clear hb hbox hg; have hcz12_0 : w11.cell? ⟨gb638, 0, none⟩ = some (.int .i64 a0_0) := (blk_cell BK638.out 0).trans rfl; have hcz12_1 : w11.cell? ⟨gb638, 1, none⟩ = some (.int .i64 a0_1) := (blk_cell BK638.out 1).trans rfl; have hcz12_2 : w11.cell? ⟨gb638, 2, none⟩ = some (.string a0_2) := (blk_cell BK638.out 2).trans rfl; have hfz12_0 := blk_frozen BK638.out 0; have hfz12_1 := blk_frozen BK638.out 1; have hfz12_2 := blk_frozen BK638.out 2))
        go_ret
        exact ⟨by first | rfl | (simp [errW_none, errW_some] <;> rfl) | (simp [*, errW_none, errW_some] <;> rfl), by repeat (first | (with_reducible first | exact HB.out | apply yA | apply yN | apply yD | refine below_set ?_ GE638.out) | exact HB.out)⟩
    · rw [if_neg c7] at H
      have c7b0 : (a0_0 == 2) = false := beq_eq_false_iff_ne.mpr c7
      have c7b1 : (a0_0 != 2) = true := bne_iff_ne.mpr c7
      by_cases c13 : a0_0 = 3
      · rw [if_pos c13] at H
        have c13b0 : (a0_0 == 3) = true := beq_iff_eq.mpr c13
        have c13b1 : (a0_0 != 3) = false := bne_eq_false_iff_eq.mpr c13
        clear c13
        have H' := aM H
        clear H
        go_enter Tryz.func119, Tryz.ntmps119
        go_wp2_with (first | ((with_reducible refine gate_dst (N := 1) rfl ?_); refine box_event ?hg (N := 1) ?hd (cs := #[.int .i64 a0_0, .int .i64 a0_1, .string a0_2]) (t := 61) ?hr ?_; (case hd => rfl); (case hg => rfl); (case hr => first | (go_simp; done) | (go_simp; rfl)); intro gb638 hg w14 hbox hb; have n0_ := aM (below_step (by repeat (first | (with_reducible first | exact HB.out | apply yA | apply yN | apply yD) | exact HB.out)) hb); have n1_ := aM (hbox); have n2_ := aM ((by rw [hg]; exact (below_size (by repeat (first | (with_reducible first | exact HB.out | apply yA | apply yN | apply yD) | exact HB.out))) : w.heap.size ≤ gb638)); have n3_ := n2_; clear HB; have HB := n0_; have BK638 := n1_; have GW638 := n2_; have GE638 := n3_; clear n0_ n1_ n2_ n3_; clear hb hbox hg; have hcz15_0 : w14.cell? ⟨gb638, 0, none⟩ = some (.int .i64 a0_0) := (blk_cell BK638.out 0).trans rfl; have hcz15_1 : w14.cell? ⟨gb638, 1, none⟩ = some (.int .i64 a0_1) := (blk_cell BK638.out 1).trans rfl; have hcz15_2 : w14.cell? ⟨gb638, 2, none⟩ = some (.string a0_2) := (blk_cell BK638.out 2).trans rfl; have hfz15_0 := blk_frozen BK638.out 0; have hfz15_1 := blk_frozen BK638.out 1; have hfz15_2 := blk_frozen BK638.out 2))
        go_loopg [3, 4] k (fun kq v3 v4 w' => ∃ (x3_1 : ByteArray) (x4_1 : Int), v3 = .string x3_1 ∧ v4 = .int .i64 x4_1 ∧ Aside0 (tacticianref01_String.l0 kq x3_1 x4_1 a0_0 a0_1 a0_2 = some r) ∧ Aside0 (kq ≤ k) ∧ Aside0 (w'.heap[gb638]? = some (.cells #[.int .i64 a0_0, .int .i64 a0_1, .string a0_2] 61 (0, 0))) ∧ Aside0 (Below w.heap.size w w'))
        case atStart => exact ⟨((⟨#[39]⟩ : ByteArray)), (0), (by first | rfl | (simp; done) | (simp [*]; done)), (by first | rfl | (simp; done) | (simp [*]; done)), H', ⟨Nat.le_refl _⟩, ⟨by (with_reducible repeat (first | refine zN ?_ _ | refine zD ?_ | refine zA ?_ _)); exact BK638.out⟩, ⟨by repeat (first | (with_reducible first | exact HB.out | apply yA | apply yN | apply yD | refine below_set ?_ GE638.out) | exact HB.out)⟩⟩
        case round =>
          clear H'
          try clear c2
          try clear c2b0
          try clear c2b1
          try clear c7
          try clear c7b0
          try clear c7b1
          try clear c13
          try clear c13b0
          try clear c13b1
          try clear hcz15_0
          try clear hcz15_1
          try clear hcz15_2
          try clear hfz15_0
          try clear hfz15_1
          try clear hfz15_2
          obtain ⟨x3_1, x4_1, rfl, rfl, HA, HK1, BK638, HB⟩ := hrel
          cases gk with
          | zero => exact absurd HA.out (by simp [tacticianref01_String.l0])
          | succ k1 =>
            have H := HA.out
            clear HA
            simp only [tacticianref01_String.l0] at H
            by_cases c16 : x4_1 < (a0_2.size : Int)
            · rw [if_pos c16] at H
              have c16b0 : decide (x4_1 < (a0_2.size : Int)) = true := decide_eq_true c16
              clear c16
              by_cases c17 : 0 ≤ x4_1
              · rw [if_pos c17] at H
                have c17b0 := eq_true c17
                have c17b1 : decide (0 ≤ x4_1) = true := decide_eq_true c17
                clear c17
                by_cases c18 : x4_1 ≤ (wrap64 (x4_1 + 1))
                · rw [if_pos c18] at H
                  have c18b0 := eq_true c18
                  have c18b1 : decide (x4_1 ≤ (wrap64 (x4_1 + 1))) = true := decide_eq_true c18
                  by_cases c19 : (wrap64 (x4_1 + 1)) ≤ (a0_2.size : Int)
                  · rw [if_pos c19] at H
                    have c19b0 := eq_true c19
                    have c19b1 : decide ((wrap64 (x4_1 + 1)) ≤ (a0_2.size : Int)) = true := decide_eq_true c19
                    by_cases c20 : x3_1.size + (a0_2.extract (x4_1 : Int).toNat ((wrap64 (x4_1 + 1)) : Int).toNat).size ≤ 9223372036854775807
                    · rw [if_pos c20] at H
                      have c20b0 := eq_true c20
                      have c20b1 : decide (x3_1.size + (a0_2.extract (x4_1 : Int).toNat ((wrap64 (x4_1 + 1)) : Int).toNat).size ≤ 9223372036854775807) = true := decide_eq_true c20
                      try have c20b2 : (9223372036854775807 < x3_1.size + (a0_2.extract (x4_1 : Int).toNat ((wrap64 (x4_1 + 1)) : Int).toNat).size) = False := eq_false (Nat.not_lt.2 c20)
                      by_cases c22 : (bt a0_2 x4_1) = 39
                      · rw [if_pos c22] at H
                        have c22b0 : ((bt a0_2 x4_1) == 39) = true := beq_iff_eq.mpr c22
                        have c22b1 : ((bt a0_2 x4_1) != 39) = false := bne_eq_false_iff_eq.mpr c22
                        clear c22
                        by_cases c23 : (x3_1 ++ (a0_2.extract (x4_1 : Int).toNat ((wrap64 (x4_1 + 1)) : Int).toNat)).size + 1 ≤ 9223372036854775807
                        · rw [if_pos c23] at H
                          have c23b0 := eq_true c23
                          have c23b1 : decide ((x3_1 ++ (a0_2.extract (x4_1 : Int).toNat ((wrap64 (x4_1 + 1)) : Int).toNat)).size + 1 ≤ 9223372036854775807) = true := decide_eq_true c23
                          have c23b1x : (9223372036854775807 < x3_1.size + (((wrap64 (x4_1 + 1)) : Int).toNat - (x4_1 : Int).toNat) + 1) = False := eq_false (by have h_ := c23; have q_ : ((wrap64 (x4_1 + 1)) : Int) ≤ (a0_2.size : Int) := of_decide_eq_true (by first | (with_reducible assumption) | assumption); simp only [ByteArray.size_append, ByteArray.size_extract] at h_; omega)
                          try have c23b2 : (9223372036854775807 < (x3_1 ++ (a0_2.extract (x4_1 : Int).toNat ((wrap64 (x4_1 + 1)) : Int).toNat)).size + 1) = False := eq_false (Nat.not_lt.2 c23)
                          have H' := aM H
                          clear H
                          have hcz24_0 : wr.cell? ⟨gb638, 0, none⟩ = some (.int .i64 a0_0) := (blk_cell BK638.out 0).trans rfl
                          have hcz24_1 : wr.cell? ⟨gb638, 1, none⟩ = some (.int .i64 a0_1) := (blk_cell BK638.out 1).trans rfl
                          have hcz24_2 : wr.cell? ⟨gb638, 2, none⟩ = some (.string a0_2) := (blk_cell BK638.out 2).trans rfl
                          have hfz24_0 := blk_frozen BK638.out 0
                          have hfz24_1 := blk_frozen BK638.out 1
                          have hfz24_2 := blk_frozen BK638.out 2
                          have p21 : 0 ≤ (x4_1 : Int) := of_decide_eq_true (by first | (with_reducible assumption) | assumption)
                          have q21 : x4_1 < (a0_2.size : Int) := of_decide_eq_true (by first | (with_reducible assumption) | assumption)
                          have hx21 := bt_at a0_2 x4_1
                          replace p21 := eq_true p21
                          replace q21 := eq_true q21
                          go_wp2
                          go_roundg k1
                          case measure => have := HK1.out; omega
                          case rel => exact ⟨((x3_1 ++ (a0_2.extract (x4_1 : Int).toNat ((wrap64 (x4_1 + 1)) : Int).toNat)) ++ (⟨#[39]⟩ : ByteArray)), (wrap64 (x4_1 + 1)), (by first | rfl | (simp; done) | (simp [*]; done)), (by first | rfl | (simp; done) | (simp [*]; done)), H', ⟨by have := HK1.out; omega⟩, ⟨by (with_reducible repeat (first | refine zN ?_ _ | refine zD ?_ | refine zA ?_ _)); exact BK638.out⟩, ⟨by repeat (first | (with_reducible first | exact HB.out | apply yA | apply yN | apply yD | refine below_set ?_ GE638.out) | exact HB.out)⟩⟩
                        · rw [if_neg c23] at H
                          exact absurd H (by simp)
                      · rw [if_neg c22] at H
                        have c22b0 : ((bt a0_2 x4_1) == 39) = false := beq_eq_false_iff_ne.mpr c22
                        have c22b1 : ((bt a0_2 x4_1) != 39) = true := bne_iff_ne.mpr c22
                        have H' := aM H
                        clear H
                        have hcz25_0 : wr.cell? ⟨gb638, 0, none⟩ = some (.int .i64 a0_0) := (blk_cell BK638.out 0).trans rfl
                        have hcz25_1 : wr.cell? ⟨gb638, 1, none⟩ = some (.int .i64 a0_1) := (blk_cell BK638.out 1).trans rfl
                        have hcz25_2 : wr.cell? ⟨gb638, 2, none⟩ = some (.string a0_2) := (blk_cell BK638.out 2).trans rfl
                        have hfz25_0 := blk_frozen BK638.out 0
                        have hfz25_1 := blk_frozen BK638.out 1
                        have hfz25_2 := blk_frozen BK638.out 2
                        have p21 : 0 ≤ (x4_1 : Int) := of_decide_eq_true (by first | (with_reducible assumption) | assumption)
                        have q21 : x4_1 < (a0_2.size : Int) := of_decide_eq_true (by first | (with_reducible assumption) | assumption)
                        have hx21 := bt_at a0_2 x4_1
                        replace p21 := eq_true p21
                        replace q21 := eq_true q21
                        go_wp2
                        go_roundg k1
                        case measure => have := HK1.out; omega
                        case rel => exact ⟨(x3_1 ++ (a0_2.extract (x4_1 : Int).toNat ((wrap64 (x4_1 + 1)) : Int).toNat)), (wrap64 (x4_1 + 1)), (by first | rfl | (simp; done) | (simp [*]; done)), (by first | rfl | (simp; done) | (simp [*]; done)), H', ⟨by have := HK1.out; omega⟩, ⟨by (with_reducible repeat (first | refine zN ?_ _ | refine zD ?_ | refine zA ?_ _)); exact BK638.out⟩, ⟨by repeat (first | (with_reducible first | exact HB.out | apply yA | apply yN | apply yD | refine below_set ?_ GE638.out) | exact HB.out)⟩⟩
                    · rw [if_neg c20] at H
                      exact absurd H (by simp)
                  · rw [if_neg c19] at H
                    exact absurd H (by simp)
                · rw [if_neg c18] at H
                  exact absurd H (by simp)
              · rw [if_neg c17] at H
                exact absurd H (by simp)
            · rw [if_neg c16] at H
              have c16b0 : decide (x4_1 < (a0_2.size : Int)) = false := decide_eq_false c16
              clear c16
              by_cases c26 : x3_1.size + 1 ≤ 9223372036854775807
              · rw [if_pos c26] at H
                have c26b0 := eq_true c26
                have c26b1 : decide (x3_1.size + 1 ≤ 9223372036854775807) = true := decide_eq_true c26
                try have c26b2 : (9223372036854775807 < x3_1.size + 1) = False := eq_false (Nat.not_lt.2 c26)
                obtain rfl := Option.some.inj H
                have hcz27_0 : wr.cell? ⟨gb638, 0, none⟩ = some (.int .i64 a0_0) := (blk_cell BK638.out 0).trans rfl
                have hcz27_1 : wr.cell? ⟨gb638, 1, none⟩ = some (.int .i64 a0_1) := (blk_cell BK638.out 1).trans rfl
                have hcz27_2 : wr.cell? ⟨gb638, 2, none⟩ = some (.string a0_2) := (blk_cell BK638.out 2).trans rfl
                have hfz27_0 := blk_frozen BK638.out 0
                have hfz27_1 := blk_frozen BK638.out 1
                have hfz27_2 := blk_frozen BK638.out 2
                go_wp2
                go_ret
                exact ⟨by first | rfl | (simp [errW_none, errW_some] <;> rfl) | (simp [*, errW_none, errW_some] <;> rfl), by repeat (first | (with_reducible first | exact HB.out | apply yA | apply yN | apply yD | refine below_set ?_ GE638.out) | exact HB.out)⟩
              · rw [if_neg c26] at H
                exact absurd H (by simp)
      · rw [if_neg c13] at H
        have c13b0 : (a0_0 == 3) = false := beq_eq_false_iff_ne.mpr c13
        have c13b1 : (a0_0 != 3) = true := bne_iff_ne.mpr c13
        obtain rfl := Option.some.inj H
        go_enter Tryz.func119, Tryz.ntmps119
        go_wp2_with (first | ((with_reducible refine gate_dst (N := 1) rfl ?_); refine box_event ?hg (N := 1) ?hd (cs := #[.int .i64 a0_0, .int .i64 a0_1, .string a0_2]) (t := 61) ?hr ?_; (case hd => rfl); (case hg => rfl); (case hr => first | (go_simp; done) | (go_simp; rfl)); intro gb638 hg w28 hbox hb; have n0_ := aM (below_step (by repeat (first | (with_reducible first | exact HB.out | apply yA | apply yN | apply yD) | exact HB.out)) hb); have n1_ := aM (hbox); have n2_ := aM ((by rw [hg]; exact (below_size (by repeat (first | (with_reducible first | exact HB.out | apply yA | apply yN | apply yD) | exact HB.out))) : w.heap.size ≤ gb638)); have n3_ := n2_; clear HB; have HB := n0_; have BK638 := n1_; have GW638 := n2_; have GE638 := n3_; clear n0_ n1_ n2_ n3_; clear hb hbox hg; have hcz29_0 : w28.cell? ⟨gb638, 0, none⟩ = some (.int .i64 a0_0) := (blk_cell BK638.out 0).trans rfl; have hcz29_1 : w28.cell? ⟨gb638, 1, none⟩ = some (.int .i64 a0_1) := (blk_cell BK638.out 1).trans rfl; have hcz29_2 : w28.cell? ⟨gb638, 2, none⟩ = some (.string a0_2) := (blk_cell BK638.out 2).trans rfl; have hfz29_0 := blk_frozen BK638.out 0; have hfz29_1 := blk_frozen BK638.out 1; have hfz29_2 := blk_frozen BK638.out 2))
        go_ret
        exact ⟨by first | rfl | (simp [errW_none, errW_some] <;> rfl) | (simp [*, errW_none, errW_some] <;> rfl), by repeat (first | (with_reducible first | exact HB.out | apply yA | apply yN | apply yD | refine below_set ?_ GE638.out) | exact HB.out)⟩
theorem tacticianref01_String.l0_at (s : ByteArray) (hs : s.size ≤ 200) (k0 i0 : Int) : ∀ (d i k : Nat) (acc : List UInt8), i + d = s.size → d < k → acc.length ≤ 1 + 2 * i →
    tacticianref01_String.l0 k (ofL acc) (i : Int) k0 i0 s = some (ofL (acc ++ dbl (s.data.toList.drop i) ++ [39])) := by
  intro d
  induction d with
  | zero =>
    intro i k acc hi hk ha
    obtain ⟨k, rfl⟩ : ∃ m, k = m + 1 := ⟨k - 1, by omega⟩
    simp only [tacticianref01_String.l0]
    rw [if_neg (by omega), List.drop_of_length_le (by rw [Array.length_toList]; exact Nat.le_of_eq hi.symm), if_pos (by rw [ofL_size]; omega)]
    apply congrArg some
    apply ba_ext
    rw [append_data, ofL_data, ofL_data]
    simp [dbl]
  | succ d ih =>
    intro i k acc hi hk ha
    obtain ⟨k, rfl⟩ : ∃ m, k = m + 1 := ⟨k - 1, by omega⟩
    have hlt : i < s.size := by omega
    have hlt' : i < s.data.toList.length := by rw [Array.length_toList]; exact hlt
    have hx : (s.extract ((i : Int)).toNat ((i : Int) + 1).toNat) = ofL [s.data.toList[i]] := by
      apply ba_ext
      rw [ofL_data, ByteArray.data_extract, Array.toList_extract, show ((i : Int)).toNat = i by omega, show ((i : Int) + 1).toNat = i + 1 by omega]
      simp only [List.extract_eq_take_drop, Nat.add_sub_cancel_left]
      rw [List.drop_eq_getElem_cons hlt']
      rfl
    simp only [tacticianref01_String.l0]
    rw [wrap_small (by omega) (by omega), hx, if_pos (by omega), if_pos (by omega), if_pos (by omega), if_pos (by omega), if_pos (by rw [ofL_size, ofL_size]; simp only [List.length_cons, List.length_nil]; omega), bt_get s i hlt, List.drop_eq_getElem_cons hlt']
    generalize s.data.toList[i] = c
    have e1 : ofL acc ++ ofL [c] = ofL (acc ++ [c]) := by apply ba_ext; rw [append_data, ofL_data, ofL_data, ofL_data]
    rw [e1]
    by_cases hc : c = 39
    · subst hc
      have e2 : ofL (acc ++ [39]) ++ (⟨#[39]⟩ : ByteArray) = ofL (acc ++ [39, 39]) := by apply ba_ext; rw [append_data, ofL_data, ofL_data]; simp
      rw [if_pos (by decide), if_pos (by rw [ofL_size]; simp only [List.length_append, List.length_cons, List.length_nil]; omega), e2, show ((i : Int) + 1) = ((i + 1 : Nat) : Int) by omega, ih (i + 1) k _ (by omega) (by omega) (by simp only [List.length_append, List.length_cons, List.length_nil]; omega)]
      simp [dbl]
    · have hc2 : ¬ (c.toNat : Int) = 39 := by intro e; apply hc; apply UInt8.toNat_inj.1; show c.toNat = 39; omega
      rw [if_neg hc2, show ((i : Int) + 1) = ((i + 1 : Nat) : Int) by omega, ih (i + 1) k _ (by omega) (by omega) (by simp only [List.length_append, List.length_cons, List.length_nil]; omega)]
      simp [dbl, hc]
theorem tacticianref01_String.at (a b : Int) (c : ByteArray) (h : okV a b c = true) : tacticianref01_String.f 300 a b c = some (writ a b c) := by
  unfold tacticianref01_String.f
  rcases okV_cases h with ⟨rfl, rfl, rfl⟩ | ⟨rfl, hi, rfl⟩ | ⟨rfl, rfl | rfl, rfl⟩ | ⟨rfl, rfl, hs, hp⟩
  · rfl
  · rw [if_pos rfl]; unfold tacticianref01_Digits_s.f; rw [if_pos hi]; rfl
  · rfl
  · rfl
  · rw [if_neg (by decide), if_neg (by decide), if_pos rfl]
    have := tacticianref01_String.l0_at c hs 3 0 c.size 0 300 [39] (by omega) (by omega) (by simp)
    rw [show (⟨#[39]⟩ : ByteArray) = ofL [39] from rfl, show (0 : Int) = ((0 : Nat) : Int) from rfl]
    refine this.trans ?_
    rfl
def tacticianref01_String_s.f (a0_0 : Int) (a0_1 : Int) (a0_2 : ByteArray) : Option (ByteArray) := if okV a0_0 a0_1 a0_2 = true then some (writ a0_0 a0_1 a0_2) else none
theorem tacticianref01_String_s.calls (a0_0 : Int) (a0_1 : Int) (a0_2 : ByteArray) (r : ByteArray) (w : World) (h : tacticianref01_String_s.f a0_0 a0_1 a0_2 = some r) :
  Calls Tryz.prog 119 #[.agg #[.int .i64 a0_0, .int .i64 a0_1, .string a0_2]] w fun e w' => e = .returned (.string r) ∧ Below w.heap.size w w' := by
 unfold tacticianref01_String_s.f at h
 by_cases hs : okV a0_0 a0_1 a0_2 = true
 ·rw [if_pos hs] at h
  obtain rfl := Option.some.inj h
  exact tacticianref01_String.calls 300 a0_0 a0_1 a0_2 _ w (tacticianref01_String.at _ _ _ hs)
 ·rw [if_neg hs] at h; cases h
mutual
def tacticianref01_Number.j0 : Nat → ByteArray → Bool → Option (Int × Bool)
  | 0, _, _ => none
  | k + 1, x0, x13 => if x13 = true then (some (0, false)) else (tacticianref01_Number.l0 k x0 0 0)
def tacticianref01_Number.l0 : Nat → ByteArray → Int → Int → Option (Int × Bool)
  | 0, _, _, _ => none
  | k + 1, x0, x4, x5 => if x5 < (x0.size : Int) then (if 0 ≤ x5 then (if (bt x0 x5) ≥ 48 then (if (bt x0 x5) ≤ 57 then (tacticianref01_Number.l0 k x0 (wrap64 ((wrap64 (x4 * 10)) - (((bt x0 x5) - 48) % 256))) (wrap64 (x5 + 1))) else (tacticianref01_Number.l0 k x0 x4 (wrap64 (x5 + 1)))) else (tacticianref01_Number.l0 k x0 x4 (wrap64 (x5 + 1)))) else (none)) else ((tacticianref01_Digits_s.f x4).bind fun t710 => (if t710.toList = x0.toList then (some (x4, true)) else (if x4 = (-9223372036854775808) then (some (0, false)) else ((tacticianref01_Digits_s.f (wrap64 (-x4))).bind fun t711 => (if t711.toList = x0.toList then (some (wrap64 (-x4), true)) else (some (0, false)))))))
end
def tacticianref01_Number.f (k : Nat) (a0 : ByteArray) : Option (Int × Bool) := if (a0.size : Int) = 0 then (tacticianref01_Number.j0 k a0 true) else (tacticianref01_Number.j0 k a0 (decide ((a0.size : Int) > 20)))
set_option maxHeartbeats 8000000 in
set_option maxRecDepth 100000 in
theorem tacticianref01_Number.calls (k : Nat) (a0 : ByteArray) (r1 : Int) (r2 : Bool) (w : World) (h : tacticianref01_Number.f k a0 = some (r1, r2)) :
  Calls Tryz.prog 168 #[.string a0] w fun e w' => e = .returned (.tuple #[.int .i64 r1, .bool r2]) ∧ Below w.heap.size w w' := by
 have HB := aM (Below.refl w.heap.size w)
 have H : (if (a0.size : Int) = 0 then (tacticianref01_Number.j0 k a0 true) else (tacticianref01_Number.j0 k a0 (decide ((a0.size : Int) > 20)))) = some (r1, r2) := h
 clear h
 have HC2 := aM H
 clear H
 go_enter Tryz.func168, Tryz.ntmps168
 go_upto_region 1 with (fail)
 go_cut [13] (fun v13 wc => ∃ (kq : Nat) (x13_1 : Bool), v13 = .bool x13_1 ∧ Aside0 (tacticianref01_Number.j0 kq a0 x13_1 = some (r1, r2)) ∧ Aside0 (kq ≤ k) ∧ Aside0 (Below w.heap.size w wc))
 case first =>
  have H := HC2.out
  clear HC2
  by_cases c3 : (a0.size : Int) = 0
  ·rw [if_pos c3] at H
   have c3b0 : ((a0.size : Int) == 0) = true := beq_iff_eq.mpr c3
   have c3b1 : ((a0.size : Int) != 0) = false := bne_eq_false_iff_eq.mpr c3
   clear c3
   (first | rw [c3b0] | (simp only [i64_w, i32_w]; rw [c3b0]) | skip)
   have H' := aM H
   clear H
   go_wp2
   go_meet
   case rel => exact ⟨_, (true), (by first | rfl | (simp; done) | (simp [*]; done)), H', ⟨by first | omega | exact Nat.le_refl _⟩, ⟨by repeat (first | (with_reducible first | exact HB.out | apply yA | apply yN | apply yD) | exact HB.out)⟩⟩
  ·rw [if_neg c3] at H
   have c3b0 : ((a0.size : Int) == 0) = false := beq_eq_false_iff_ne.mpr c3
   have c3b1 : ((a0.size : Int) != 0) = true := bne_iff_ne.mpr c3
   (first | rw [c3b0] | (simp only [i64_w, i32_w]; rw [c3b0]) | skip)
   have H' := aM H
   clear H
   go_wp2
   go_meet
   case rel => exact ⟨_, (decide ((a0.size : Int) > 20)), (by first | rfl | (simp; done) | (simp [*]; done)), H', ⟨by first | omega | exact Nat.le_refl _⟩, ⟨by repeat (first | (with_reducible first | exact HB.out | apply yA | apply yN | apply yD) | exact HB.out)⟩⟩
 case rest =>
  clear HC2
  obtain ⟨kq, x13_1, rfl, HA, HJ1, HB⟩ := hcut
  cases kq with
  | zero => exact absurd HA.out (by simp [tacticianref01_Number.j0])
  | succ kj1 =>
   have H := HA.out
   clear HA
   simp only [tacticianref01_Number.j0] at H
   by_cases c4 : x13_1 = true
   ·subst c4
    have H1 : (some (0, false)) = some (r1, r2) := by rw [if_pos rfl] at H; exact H
    clear H
    have H := H1
    clear H1
    simp only [Option.some.injEq, Prod.mk.injEq] at H
    obtain ⟨rfl, rfl⟩ := H
    go_wp2
    go_ret2
    exact ⟨by first | rfl | (simp [errW_none, errW_some] <;> rfl) | (simp [*, errW_none, errW_some] <;> rfl), by repeat (first | (with_reducible first | exact HB.out | apply yA | apply yN | apply yD) | exact HB.out)⟩
   ·replace c4 := Bool.eq_false_iff.mpr c4
    subst c4
    have H1 : (tacticianref01_Number.l0 kj1 a0 0 0) = some (r1, r2) := by rw [if_neg (show ¬ (false = true) by decide)] at H; exact H
    clear H
    have H := H1
    clear H1
    have H' := aM H
    clear H
    go_wp2
    go_loopg [4, 5] kj1 (fun kq v4 v5 w' => ∃ (x4_2 : Int) (x5_2 : Int), v4 = .int .i64 x4_2 ∧ v5 = .int .i64 x5_2 ∧ Aside0 (tacticianref01_Number.l0 kq a0 x4_2 x5_2 = some (r1, r2)) ∧ Aside0 (kq ≤ kj1) ∧ Aside0 (Below w.heap.size w w'))
    case atStart => exact ⟨(0), (0), (by first | rfl | (simp; done) | (simp [*]; done)), (by first | rfl | (simp; done) | (simp [*]; done)), H', ⟨Nat.le_refl _⟩, ⟨by repeat (first | (with_reducible first | exact HB.out | apply yA | apply yN | apply yD) | exact HB.out)⟩⟩
    case round =>
     clear H'
     try clear c4
     obtain ⟨x4_2, x5_2, rfl, rfl, HA, HK2, HB⟩ := hrel
     cases gk with
     | zero => exact absurd HA.out (by simp [tacticianref01_Number.l0])
     | succ k2 =>
      have H := HA.out
      clear HA
      simp only [tacticianref01_Number.l0] at H
      by_cases c5 : x5_2 < (a0.size : Int)
      ·rw [if_pos c5] at H
       have c5b0 : decide (x5_2 < (a0.size : Int)) = true := decide_eq_true c5
       clear c5
       by_cases c6 : 0 ≤ x5_2
       ·rw [if_pos c6] at H
        have c6b0 : decide (0 ≤ x5_2) = true := decide_eq_true c6
        clear c6
        by_cases c8 : (bt a0 x5_2) ≥ 48
        ·rw [if_pos c8] at H
         have c8b0 : decide (48 ≤ (bt a0 x5_2)) = true := decide_eq_true c8
         clear c8
         by_cases c10 : (bt a0 x5_2) ≤ 57
         ·rw [if_pos c10] at H
          have c10b0 : decide ((bt a0 x5_2) ≤ 57) = true := decide_eq_true c10
          clear c10
          have H' := aM H
          clear H
          have p7 : 0 ≤ (x5_2 : Int) := of_decide_eq_true (by first | (with_reducible assumption) | assumption)
          have q7 : x5_2 < (a0.size : Int) := of_decide_eq_true (by first | (with_reducible assumption) | assumption)
          have hx7 := bt_at a0 x5_2
          replace p7 := eq_true p7
          replace q7 := eq_true q7
          go_wp2
          go_roundg k2
          case measure => have := HJ1.out; have := HK2.out; omega
          case rel => exact ⟨(wrap64 ((wrap64 (x4_2 * 10)) - (((bt a0 x5_2) - 48) % 256))), (wrap64 (x5_2 + 1)), (by first | rfl | (simp; done) | (simp [*]; done)), (by first | rfl | (simp; done) | (simp [*]; done)), H', ⟨by have := HJ1.out; have := HK2.out; omega⟩, ⟨by repeat (first | (with_reducible first | exact HB.out | apply yA | apply yN | apply yD) | exact HB.out)⟩⟩
         ·rw [if_neg c10] at H
          have c10b0 : decide ((bt a0 x5_2) ≤ 57) = false := decide_eq_false c10
          clear c10
          have H' := aM H
          clear H
          have p7 : 0 ≤ (x5_2 : Int) := of_decide_eq_true (by first | (with_reducible assumption) | assumption)
          have q7 : x5_2 < (a0.size : Int) := of_decide_eq_true (by first | (with_reducible assumption) | assumption)
          have hx7 := bt_at a0 x5_2
          replace p7 := eq_true p7
          replace q7 := eq_true q7
          go_wp2
          go_roundg k2
          case measure => have := HJ1.out; have := HK2.out; omega
          case rel => exact ⟨(x4_2), (wrap64 (x5_2 + 1)), (by first | rfl | (simp; done) | (simp [*]; done)), (by first | rfl | (simp; done) | (simp [*]; done)), H', ⟨by have := HJ1.out; have := HK2.out; omega⟩, ⟨by repeat (first | (with_reducible first | exact HB.out | apply yA | apply yN | apply yD) | exact HB.out)⟩⟩
        ·rw [if_neg c8] at H
         have c8b0 : decide (48 ≤ (bt a0 x5_2)) = false := decide_eq_false c8
         clear c8
         have H' := aM H
         clear H
         have p7 : 0 ≤ (x5_2 : Int) := of_decide_eq_true (by first | (with_reducible assumption) | assumption)
         have q7 : x5_2 < (a0.size : Int) := of_decide_eq_true (by first | (with_reducible assumption) | assumption)
         have hx7 := bt_at a0 x5_2
         replace p7 := eq_true p7
         replace q7 := eq_true q7
         go_wp2
         go_roundg k2
         case measure => have := HJ1.out; have := HK2.out; omega
         case rel => exact ⟨(x4_2), (wrap64 (x5_2 + 1)), (by first | rfl | (simp; done) | (simp [*]; done)), (by first | rfl | (simp; done) | (simp [*]; done)), H', ⟨by have := HJ1.out; have := HK2.out; omega⟩, ⟨by repeat (first | (with_reducible first | exact HB.out | apply yA | apply yN | apply yD) | exact HB.out)⟩⟩
       ·rw [if_neg c6] at H
        exact absurd H (by simp)
      ·rw [if_neg c5] at H
       have c5b0 : decide (x5_2 < (a0.size : Int)) = false := decide_eq_false c5
       clear c5
       replace H := Option.bind_eq_some_iff.mp H
       obtain ⟨t710, A120, H⟩ := H
       replace H : (if t710.toList = a0.toList then (some (x4_2, true)) else (if x4_2 = (-9223372036854775808) then (some (0, false)) else ((tacticianref01_Digits_s.f (wrap64 (-x4_2))).bind fun t711 => (if t711.toList = a0.toList then (some (wrap64 (-x4_2), true)) else (some (0, false)))))) = some (r1, r2) := H
       have A12 := aM A120
       clear A120
       by_cases c13 : t710.toList = a0.toList
       ·rw [if_pos c13] at H
        have c13b0 : (t710.toList == a0.toList) = true := beq_iff_eq.mpr c13
        have c13b1 : (t710.toList != a0.toList) = false := bne_eq_false_iff_eq.mpr c13
        clear c13
        simp only [Option.some.injEq, Prod.mk.injEq] at H
        obtain ⟨rfl, rfl⟩ := H
        go_wp2_with (first | ((with_reducible refine gate_callee (f := 151) rfl ?_); refine goesL_ (some 39) rfl rfl Tryz.func151 (by kernel_rfl) rfl #[.int .i64 x4_2] rfl (by (try simp only [List.map_toArray, List.map_cons, List.map_nil]); first | done | rfl | (simp only [List.length_drop, List.length_take]; rfl)) ?_; (with_reducible refine (tacticianref01_Digits_s.calls x4_2 t710 _ A12.out).mono ?_); rintro e w14 ⟨rfl, hb⟩; refine ⟨_, rfl, ?_⟩; have n0_ := aM (below_step (by repeat (first | (with_reducible first | exact HB.out | apply yA | apply yN | apply yD) | exact HB.out)) hb); clear HB; have HB := n0_; clear n0_; (try clear hb); (try clear hb2); (try clear hk); (try clear hi)))
        go_ret2
        exact ⟨by first | rfl | (simp [errW_none, errW_some] <;> rfl) | (simp [*, errW_none, errW_some] <;> rfl), by repeat (first | (with_reducible first | exact HB.out | apply yA | apply yN | apply yD) | exact HB.out)⟩
       ·rw [if_neg c13] at H
        have c13b0 : (t710.toList == a0.toList) = false := beq_eq_false_iff_ne.mpr c13
        have c13b1 : (t710.toList != a0.toList) = true := bne_iff_ne.mpr c13
        by_cases c15 : x4_2 = (-9223372036854775808)
        ·rw [if_pos c15] at H
         have c15b0 : (x4_2 == (-9223372036854775808)) = true := beq_iff_eq.mpr c15
         have c15b1 : (x4_2 != (-9223372036854775808)) = false := bne_eq_false_iff_eq.mpr c15
         clear c15
         simp only [Option.some.injEq, Prod.mk.injEq] at H
         obtain ⟨rfl, rfl⟩ := H
         go_wp2_with (first | ((with_reducible refine gate_callee (f := 151) rfl ?_); refine goesL_ (some 39) rfl rfl Tryz.func151 (by kernel_rfl) rfl #[.int .i64 x4_2] rfl (by (try simp only [List.map_toArray, List.map_cons, List.map_nil]); first | done | rfl | (simp only [List.length_drop, List.length_take]; rfl)) ?_; (with_reducible refine (tacticianref01_Digits_s.calls x4_2 t710 _ A12.out).mono ?_); rintro e w16 ⟨rfl, hb⟩; refine ⟨_, rfl, ?_⟩; have n0_ := aM (below_step (by repeat (first | (with_reducible first | exact HB.out | apply yA | apply yN | apply yD) | exact HB.out)) hb); clear HB; have HB := n0_; clear n0_; (try clear hb); (try clear hb2); (try clear hk); (try clear hi)))
         go_ret2
         exact ⟨by first | rfl | (simp [errW_none, errW_some] <;> rfl) | (simp [*, errW_none, errW_some] <;> rfl), by repeat (first | (with_reducible first | exact HB.out | apply yA | apply yN | apply yD) | exact HB.out)⟩
        ·rw [if_neg c15] at H
         have c15b0 : (x4_2 == (-9223372036854775808)) = false := beq_eq_false_iff_ne.mpr c15
         have c15b1 : (x4_2 != (-9223372036854775808)) = true := bne_iff_ne.mpr c15
         replace H := Option.bind_eq_some_iff.mp H
         obtain ⟨t711, A170, H⟩ := H
         replace H : (if t711.toList = a0.toList then (some (wrap64 (-x4_2), true)) else (some (0, false))) = some (r1, r2) := H
         have A17 := aM A170
         clear A170
         by_cases c18 : t711.toList = a0.toList
         ·rw [if_pos c18] at H
          have c18b0 : (t711.toList == a0.toList) = true := beq_iff_eq.mpr c18
          have c18b1 : (t711.toList != a0.toList) = false := bne_eq_false_iff_eq.mpr c18
          clear c18
          simp only [Option.some.injEq, Prod.mk.injEq] at H
          obtain ⟨rfl, rfl⟩ := H
          go_wp2_with (first | ((with_reducible refine gate_callee (f := 151) rfl ?_); refine goesL_ (some 39) rfl rfl Tryz.func151 (by kernel_rfl) rfl #[.int .i64 x4_2] rfl (by (try simp only [List.map_toArray, List.map_cons, List.map_nil]); first | done | rfl | (simp only [List.length_drop, List.length_take]; rfl)) ?_; (with_reducible refine (tacticianref01_Digits_s.calls x4_2 t710 _ A12.out).mono ?_); rintro e w19 ⟨rfl, hb⟩; refine ⟨_, rfl, ?_⟩; have n0_ := aM (below_step (by repeat (first | (with_reducible first | exact HB.out | apply yA | apply yN | apply yD) | exact HB.out)) hb); clear HB; have HB := n0_; clear n0_; (try clear hb); (try clear hb2); (try clear hk); (try clear hi)) | (go_at_call 151; (with_reducible refine (tacticianref01_Digits_s.calls (wrap64 (-x4_2)) t711 _ A17.out).mono ?_); rintro e w20 ⟨rfl, hb⟩; have n0_ := aM (below_step (by repeat (first | (with_reducible first | exact HB.out | apply yA | apply yN | apply yD) | exact HB.out)) hb); clear HB; have HB := n0_; clear n0_; (try clear hb); (try clear hb2); (try clear hk); (try clear hi)))
          go_ret2
          exact ⟨by first | rfl | (simp [errW_none, errW_some] <;> rfl) | (simp [*, errW_none, errW_some] <;> rfl), by repeat (first | (with_reducible first | exact HB.out | apply yA | apply yN | apply yD) | exact HB.out)⟩
         ·rw [if_neg c18] at H
          have c18b0 : (t711.toList == a0.toList) = false := beq_eq_false_iff_ne.mpr c18
          have c18b1 : (t711.toList != a0.toList) = true := bne_iff_ne.mpr c18
          simp only [Option.some.injEq, Prod.mk.injEq] at H
          obtain ⟨rfl, rfl⟩ := H
          go_wp2_with (first | ((with_reducible refine gate_callee (f := 151) rfl ?_); refine goesL_ (some 39) rfl rfl Tryz.func151 (by kernel_rfl) rfl #[.int .i64 x4_2] rfl (by (try simp only [List.map_toArray, List.map_cons, List.map_nil]); first | done | rfl | (simp only [List.length_drop, List.length_take]; rfl)) ?_; (with_reducible refine (tacticianref01_Digits_s.calls x4_2 t710 _ A12.out).mono ?_); rintro e w21 ⟨rfl, hb⟩; refine ⟨_, rfl, ?_⟩; have n0_ := aM (below_step (by repeat (first | (with_reducible first | exact HB.out | apply yA | apply yN | apply yD) | exact HB.out)) hb); clear HB; have HB := n0_; clear n0_; (try clear hb); (try clear hb2); (try clear hk); (try clear hi)) | (go_at_call 151; (with_reducible refine (tacticianref01_Digits_s.calls (wrap64 (-x4_2)) t711 _ A17.out).mono ?_); rintro e w22 ⟨rfl, hb⟩; have n0_ := aM (below_step (by repeat (first | (with_reducible first | exact HB.out | apply yA | apply yN | apply yD) | exact HB.out)) hb); clear HB; have HB := n0_; clear n0_; (try clear hb); (try clear hb2); (try clear hk); (try clear hi)))
          go_ret2
          exact ⟨by first | rfl | (simp [errW_none, errW_some] <;> rfl) | (simp [*, errW_none, errW_some] <;> rfl), by repeat (first | (with_reducible first | exact HB.out | apply yA | apply yN | apply yD) | exact HB.out)⟩
end Go.Proofs.YtmhobbdedmjmnaaGreatDoor.Q
end
