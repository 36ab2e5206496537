/- Each function reached is shown to return what the plain function beside it computes, wherever that is defined (written by a program of ours for this seat). -/
import Derived.Test.YtinhpbmoiamepaaGreatDoorQ0
import Derived.Test.YtinhpbmoiamepaaGreatDoorQ5
import Derived.Test.YtinhpbmoiamepaaGreatDoorQ8
import Derived.Test.YtinhpbmoiamepaaGreatDoorPlain
import Derived.Test.YtinhpbmoiamepaaGreatDoorPlainSort
namespace Go.Proofs.YtinhpbmoiamepaaGreatDoor.Q
open Go.RowKit Go.Proofs.YtinhpbmoiamepaaGreatDoorW.PrintWords Go.Proofs.YtinhpbmoiamepaaGreatDoorW.PrintLast Go.Proofs.YtinhpbmoiamepaaGreatDoorW.PrintMore
attribute [local go_sem] max2_int min2_int max_two min_two max_three min_three max_four min_four   -- for this text's walks alone
set_option linter.unusedVariables false
set_option linter.unusedSimpArgs false

/-! ### api_Value_39: function 39 -/
set_option maxHeartbeats 1000000 in
set_option maxRecDepth 100000 in
theorem cloneV.calls (A0 : Option Addr) (c0 : Nat) (l0 : List V) (w : World) (hr0 : Kd.C k25 w A0 l0.length l0) (hlen : l0.length ≤ 4398046511104) :
    Calls Tryz.prog 39 #[.slice A0 l0.length c0] w fun e w' => ∃ v0_ : Value, e = .returned v0_ ∧ Kd.R k25 25 w' w.heap.size (fun _ => True) v0_ l0 ∧ Below w.heap.size w w' := by
  have q22 : ∀ (w : World) (a : Option Addr) (n c n' c' : Nat), (binOp .eql 22 (.slice a n c) (.slice none n' c')).run Tryz.prog w = .ok (.bool a.isNone) w := fun w a n c n' c' => Lib.run_eql_slice_nil w _ _ a n c n' c' Tryz.underlying22
  cases A0 with
  | none =>
    have h0 : l0 = [] := by
      rcases Nat.eq_zero_or_pos l0.length with h | h
      · exact List.length_eq_zero_iff.1 h
      · obtain ⟨ad, e, _⟩ := hr0.2.2 h; cases e
    subst h0
    clear hr0 hlen
    go_enter Tryz.func39, Tryz.ntmps39
    go_wp2
    go_ret
    exact ⟨_, rfl, Kd.R_nil _ _ _ _ _, Below.refl _ _⟩
  | some ad =>
    have hcells : ∀ j u, (l0.flatMap encV)[j]? = some u → w.cell? (ad.add j) = some u := by
      intro j u hj
      have hj2 : j < l0.length * 3 := by
        rcases Nat.lt_or_ge j (l0.length * 3) with h | h
        · exact h
        · rw [List.getElem?_eq_none (by rw [flat_length]; exact h)] at hj; cases hj
      obtain ⟨ad', e, hc⟩ := hr0.2.2 (by omega)
      obtain rfl := Option.some.inj e
      have hq : j / 3 < l0.length := by omega
      obtain ⟨c, hc1, hc2, hc3⟩ := hc (j / 3) l0[j / 3] (List.getElem?_eq_getElem hq)
      have hc4 := k25_open hc2
      have hc5 := hc3 (j % 3) u (by
        rw [flat_get l0 j hj2] at hj
        have e : l0.toArray[j / 3]! = l0[j / 3] := by simp [hq]
        rw [e] at hj
        rw [hc4, ← hj]
        have : j % 3 = 0 ∨ j % 3 = 1 ∨ j % 3 = 2 := by omega
        rcases this with e | e | e <;> rw [e] <;> rfl)
      have e3 : j / 3 * k25.sz + j % 3 = j := by show j / 3 * 3 + j % 3 = j; omega
      rw [e3] at hc5
      exact hc5
    obtain ⟨i0, hi0, hz0, hs0, hb0⟩ : ∃ i, Tryz.prog.info? 25 = some i ∧ i.zero = some (.agg #[(.int .i64 0), (.int .i64 0), (.string ⟨#[]⟩)]) ∧ i.size = 3 ∧ i.bytes = 32 := by
      have h := info25
      cases hi : Tryz.prog.info? 25 with
      | none => rw [hi] at h; cases h
      | some i =>
        rw [hi] at h
        simp only [Option.map_some, Option.some.injEq, Prod.mk.injEq] at h
        exact ⟨i, rfl, h.1, h.2.1, h.2.2⟩
    have HI := Aside0.mk (And.intro hi0 (And.intro hz0 (And.intro hs0 hb0)))
    clear hi0 hz0 hs0 hb0
    have A := Aside0.mk hcells
    have HL := Aside0.mk hlen
    clear hr0 hcells hlen
    obtain ⟨n, hn⟩ : ∃ n, n = l0.length := ⟨_, rfl⟩
    rw [← hn]
    have HN := Aside0.mk hn
    clear hn
    go_enter Tryz.func39, Tryz.ntmps39
    go_wp2_with (at_builtin; refine wpList_append_own _ rfl _ _ 22 rfl w.heap.size 25 i0 (.agg #[(.int .i64 0), (.int .i64 0), (.string ⟨#[]⟩)]) 3 32 Tryz.underlying22 HI.out.1 HI.out.2.1 HI.out.2.2.1 HI.out.2.2.2 rfl (by decide) _ _ _ rfl (World.ownsRow_made w #[] 0 (Nat.le_refl _) (Nat.zero_le _) (by simp)) ad n c0 (l0.flatMap encV) rfl ?qc1 ?qc2 ?qc3 ?qc4 ?qc5 ?qc6 ?_)
    case qc1 => rw [flat_length, HN.out]
    case qc2 => exact fun j u hj => Lib.cell?_alloc_some _ (A.out j u hj)
    case qc3 =>
      intro u hu
      obtain ⟨x, _, hx⟩ := List.mem_flatMap.1 hu
      exact encV_one x u hx
    case qc4 => have := HN.out; have := HL.out; simp only [maxLen]; omega
    case qc5 => have := HN.out; have := HL.out; omega
    case qc6 => simp
    intro v' w1 hown hgrow hnil
    go_wp2
    go_ret
    refine ⟨v', rfl, ⟨fun _ _ => trivial, l0.flatMap encV, ?_, flat_reps _ _ _ l0⟩, ?_⟩
    · have h2 := hown
      rw [HN.out] at h2
      exact h2
    · exact ((Below.refl _ w).alloc (Nat.le_refl _) _).grown hgrow (by simp) (by intro k hk; simp [Value.ownBlock] at hk; omega)


/-! ### api_Value_40: function 40 -/
theorem orderLays (g size : Nat) (w : World) : Go.Proofs.CmpLays Tryz.prog 41 #[] encV 3 cfV g 0 size w := fun m os dk _ x y =>
  (value_Order.grows 4 x.f0 x.f1 x.f2 y.f0 y.f1 y.f2 (cfV x y) (sortWorldK encV 3 w g 0 m dk os) (by rw [value_Order.at]; rfl)).mono fun _ _ ⟨he, hb⟩ => ⟨he, hb.grown⟩
theorem sortFuncV.calls (v : Value) (xs : List V) (w : World) (base : Nat) (ok : Nat → Prop) (h : Kd.R k25 25 w base ok v xs) (hlen : xs.length < 4611686018427387904) :
    Calls Tryz.prog 40 #[v, .func (.func 41) #[] #[]] w fun e w' => e = .returned (.tuple #[]) ∧ Kd.R k25 25 w' base ok v (sortV xs) ∧ (∀ (B : Nat) (w0 : World), B ≤ base → Below B w0 w → B ≤ w.heap.size → Below B w0 w') := by
  have eg : ∀ args w, (callFunc 41 args).run Tryz.prog w = .ok (.enter 41 args) w := enters_of Tryz.func41 (by kernel_rfl) rfl
  obtain ⟨inner, ho⟩ := Kd.R_own h
  rcases ho.2 with ⟨rfl, h0⟩ | ⟨g, cap, cur, rfl, hb, hh, _⟩
  · have hx : xs = [] := List.length_eq_zero_iff.1 h0
    subst hx
    have hc := AnyF.slices_SortFunc_none Tryz.sortV none 0 (.func (.func 41) #[] #[]) w
    change Calls Tryz.prog 40 _ _ _ at hc
    refine hc.mono ?_
    rintro e w' ⟨rfl, rfl⟩
    exact ⟨rfl, by rw [show sortV [] = [] from by simp [sortV]]; exact h, fun _ _ _ hB _ => hB⟩
  · have hc := AnyQ.slices_SortFunc_total Tryz.sortV 3 Tryz.isAgg25 Tryz.sizeOf25 encV encV_length encV_one cfV cfV_tc.swo 41 #[] g 0 cap xs.toArray w eg (orderLays g _ w) (holds_of_R h) (blk_lt hh) (by simpa using hlen) cfV_tc.tot
    change Calls Tryz.prog 40 _ _ _ at hc
    refine hc.mono ?_
    rintro e w' ⟨rfl, m, os, rfl⟩
    exact ⟨rfl, sorted_R h (sortV_length xs), fun B w0 hB hbl hs => sorted_below hbl hs (Nat.le_trans hB hb)⟩


/-! ### value_Sorted: function 20 -/
def value_Sorted.f (l0 : List V) : Option (List V × Int) := if listE l0 = 0 then some (sortV l0, 0) else some ([], listE l0)
set_option maxHeartbeats 1000000 in
theorem value_Sorted.calls (A0 : Option Addr) (c0 : Nat) (l0 : List V) (r1 : List V) (r2 : Int) (w : World) (hr0 : Kd.C k25 w A0 l0.length l0) (hc0 : l0.length ≤ c0) (h : value_Sorted.f l0 = some (r1, r2)) :
    Calls Tryz.prog 20 #[.slice A0 l0.length c0] w fun e w' => ∃ v0_ : Value, e = .returned (.tuple #[v0_, .int .i64 r2]) ∧ Kd.R k25 25 w' w.heap.size (fun _ => True) v0_ r1 ∧ Below w.heap.size w w' := by
  unfold value_Sorted.f at h
  have HR := Aside0.mk (fun W (hb : Below w.heap.size w W) => value_right.calls A0 c0 l0 (listE l0) W (Kd.C_below hr0 hb) hc0 rfl)
  by_cases hl : listE l0 = 0
  · rw [if_pos hl] at h
    simp only [Option.some.injEq, Prod.mk.injEq] at h
    obtain ⟨rfl, rfl⟩ := h
    have hlen : l0.length ≤ 20000 := by
      unfold listE at hl
      by_cases z : 20000 < l0.length
      · rw [if_pos z] at hl; cases hl
      · omega
    rw [hl] at HR
    have HC := Aside0.mk (fun W (hb : Below w.heap.size w W) => cloneV.calls A0 c0 l0 W (Kd.C_below hr0 hb) (by omega))
    have HS := Aside0.mk (fun v W base ok (h : Kd.R k25 25 W base ok v l0) => sortFuncV.calls v l0 W base ok h (by omega))
    clear hr0 hc0 hl hlen
    generalize l0.length = n at HR HC ⊢
    go_enter Tryz.func20, Tryz.ntmps20
    go_wp2_with (go_at_call 38; refine (HR.out _ (Below.refl _ _)).mono ?_; rintro e w1 ⟨rfl, hb1⟩)
    have HB := Aside0.mk hb1
    clear hb1
    go_wp2_with (go_at_call 39; refine (HC.out _ HB.out).mono ?_; rintro e w2 ⟨v, rfl, hv, hb2⟩)
    have HV := Aside0.mk (Kd.R_lower hv HB.out.size)
    have HB2 := Aside0.mk (HB.out.trans (hb2.mono HB.out.size))
    clear hv hb2 HB
    go_wp2_with (go_at_call 40; refine (HS.out _ _ _ _ HV.out).mono ?_; rintro e w3 ⟨rfl, hv3, hb3⟩)
    go_ret2
    exact ⟨v, rfl, hv3, hb3 w.heap.size w (Nat.le_refl _) HB2.out HB2.out.size⟩
  · rw [if_neg hl] at h
    simp only [Option.some.injEq, Prod.mk.injEq] at h
    obtain ⟨rfl, rfl⟩ := h
    have hl2 : (listE l0 != 0) = true := by simpa using hl
    clear hr0 hc0
    generalize listE l0 = x at *
    generalize l0.length = n at *
    clear hl
    go_enter Tryz.func20, Tryz.ntmps20
    go_wp2_with (go_at_call 38; refine (HR.out _ (Below.refl _ _)).mono ?_; rintro e w' ⟨rfl, hb'⟩)
    go_ret2
    exact ⟨_, rfl, Kd.R_nil _ _ _ _ _, hb'⟩


/-! ### api_Value_61: function 61 -/
section
open Go.Sort
set_option maxHeartbeats 4000000 in
set_option maxRecDepth 100000 in
theorem compV.calls (g1 : Nat) (lb : Array Value) (eg : ∀ args w, (callFunc g1 args).run Tryz.prog w = .ok (.enter g1 args) w) (g o cap : Nat) (xs : List V) (w : World) (base : Nat) (ok : Nat → Prop) (ho : o = 0) (h : Kd.R k25 25 w base ok (.slice (some ⟨g, o, none⟩) xs.length cap) xs) (hlen : xs.length < 4611686018427387904)
    (hp : ∀ (x y : V) (W : World), (∀ k, k < w.heap.size → k ≠ g → W.heap[k]? = w.heap[k]?) → Calls Tryz.prog g1 (#[.agg #[.int .i64 x.f0, .int .i64 x.f1, .string x.f2], .agg #[.int .i64 y.f0, .int .i64 y.f1, .string y.f2]] ++ lb) W fun e w' => e = .returned (.bool (decide (x = y))) ∧ BelowD W.heap.size W w') :
    Calls Tryz.prog 61 #[.slice (some ⟨g, o, none⟩) xs.length cap, .func (.func g1) #[] lb] w fun e w' => ∃ c' : Nat, e = .returned (.slice (some ⟨g, o, none⟩) (onceV xs).length c') ∧ Kd.R k25 25 w' base ok (.slice (some ⟨g, o, none⟩) (onceV xs).length c') (onceV xs) ∧ (∀ (B : Nat) (w0 : World), B ≤ base → Below B w0 w → B ≤ w.heap.size → Below B w0 w') := by
  have mixed : Tryz.prog.follows .mixedOrders = true := by kernel_rfl
  have hu25 := Tryz.underlying25
  have HO := Aside0.mk ho
  have HR := Aside0.mk h
  have HP := Aside0.mk hp
  have hbg : base ≤ g ∧ g < w.heap.size ∧ xs.length ≤ cap := by
    obtain ⟨inner, hw⟩ := Kd.R_own h
    rcases hw.2 with ⟨he, _⟩ | ⟨g', cap', cur, he, hb, hh, hc, _⟩
    · cases he
    · injection he with he1 he2 he3
      injection he1 with he1
      injection he1 with he1
      subst he1 he3
      exact ⟨hb, blk_lt hh, hc⟩
  have HG := Aside0.mk hbg
  clear h hp ho hbg
  obtain ⟨n, hn⟩ : ∃ n, n = xs.length := ⟨_, rfl⟩
  have HN := Aside0.mk hn
  rw [← hn]
  clear hn
  have hle : n < 4611686018427387904 := by have := HN.out; omega
  clear hlen
  have hn0 : xs.toArray.size = n := by rw [HN.out]; simp
  have HN0 := Aside0.mk hn0
  clear hn0
  -- the cells of element i, in whatever world in which the row's block is as it was
  have HCELL : Aside0 (∀ (W : World), W.heap[g]? = w.heap[g]? → ∀ i, i < n → ∀ c, c < 3 → W.cell? ⟨g, o + i * 3 + c, none⟩ = some ((encV xs.toArray[i]!)[c]!)) := ⟨fun W hW i hi c hc => by
    have hR := HR.out
    rw [HO.out] at hR ⊢
    have h1 := (HoldsK.cell (holds_of_R hR) (i := i) (c := c) (by rw [HN0.out]; exact hi) hc).1
    rw [← h1]
    unfold World.cell?
    rw [hW]⟩
  by_cases h2 : n < 2
  · have h2z : decide ((n : Int) < 2) = true := by simp; omega
    go_enter Tryz.func61, Tryz.ntmps61
    go_wp2
    go_ret
    have e : onceV xs = xs := onceV_all xs (fun j hj => Lib.keeps_lt_one _ j (by have := HN.out; omega))
    refine ⟨cap, by rw [e, ← HN.out]; rfl, ?_, fun B w0 _ hB _ => hB⟩
    rw [e]
    exact HR.out
  · have h2z : decide ((n : Int) < 2) = false := by simp; omega
    go_enter Tryz.func61, Tryz.ntmps61
    go_wp2
    go_loopg [5] n (fun gg s5 wr => ∃ k : Nat, 1 ≤ k ∧ k ≤ n ∧ n - k ≤ gg ∧ s5 = .int .i64 k ∧ Aside0 (Below w.heap.size w wr) ∧ Aside0 (∀ j, j < k → Lib.keeps xs.toArray j = true))
    case atStart => exact ⟨1, Nat.le_refl _, by omega, by omega, rfl, ⟨Below.refl _ _⟩, ⟨Lib.keeps_lt_one _⟩⟩
    case round =>
      obtain ⟨k, hk1, hk, hg, rfl, HB, HA⟩ := hrel
      by_cases hlt : k < n
      · obtain ⟨kp, rfl⟩ : ∃ kp, k = kp + 1 := ⟨k - 1, by omega⟩
        have hwp : IntKind.i64.wrap (kp : Int) = (kp : Int) := by rw [IntKind.wrap_i64]; omega
        have jz : (kp : Int) + 1 < (n : Int) := by omega
        have jz1 : (kp : Int) < (n : Int) := by omega
        have p0 : (0 : Int) ≤ (kp : Int) + 1 := by omega
        have e0 : ((kp : Int) + 1).toNat = kp + 1 := by omega
        obtain ⟨x, hx⟩ : ∃ x, xs.toArray[kp + 1]! = x := ⟨_, rfl⟩
        obtain ⟨y, hy⟩ : ∃ y, xs.toArray[kp]! = y := ⟨_, rfl⟩
        have hgr : ∀ q os, (grow (wr.drewN q) os).heap[g]? = w.heap[g]? := fun q os => by
          have hg2 : g < wr.heap.size := Nat.lt_of_lt_of_le HG.out.2.1 HB.out.size
          show (wr.heap ++ os)[g]? = _
          rw [Array.getElem?_append_left hg2]
          exact HB.out.block g HG.out.2.1
        have cx : ∀ c, c < 3 → ∀ q os, (grow (wr.drewN q) os).cell? ⟨g, o + (kp + 1) * 3 + c, none⟩ = some ((encV x)[c]!) := fun c hc q os => by
          rw [← hx]; exact HCELL.out _ (hgr q os) (kp + 1) (by omega) c hc
        have cy : ∀ c, c < 3 → ∀ q os, (grow (wr.drewN q) os).cell? ⟨g, o + kp * 3 + c, none⟩ = some ((encV y)[c]!) := fun c hc q os => by
          rw [← hy]; exact HCELL.out _ (hgr q os) kp (by omega) c hc
        have cx0 : ∀ q os, (grow (wr.drewN q) os).cell? ⟨g, o + (kp + 1) * 3, none⟩ = some (.int .i64 x.f0) := cx 0 (by omega)
        have cx1 : ∀ q os, (grow (wr.drewN q) os).cell? ⟨g, o + (kp + 1) * 3 + 1, none⟩ = some (.int .i64 x.f1) := cx 1 (by omega)
        have cx2 : ∀ q os, (grow (wr.drewN q) os).cell? ⟨g, o + (kp + 1) * 3 + 2, none⟩ = some (.string x.f2) := cx 2 (by omega)
        have cy0 : ∀ q os, (grow (wr.drewN q) os).cell? ⟨g, o + kp * 3, none⟩ = some (.int .i64 y.f0) := cy 0 (by omega)
        have cy1 : ∀ q os, (grow (wr.drewN q) os).cell? ⟨g, o + kp * 3 + 1, none⟩ = some (.int .i64 y.f1) := cy 1 (by omega)
        have cy2 : ∀ q os, (grow (wr.drewN q) os).cell? ⟨g, o + kp * 3 + 2, none⟩ = some (.string y.f2) := cy 2 (by omega)
        clear cx cy
        have hcg : ∀ q os, Calls Tryz.prog g1 (#[.agg #[.int .i64 x.f0, .int .i64 x.f1, .string x.f2], .agg #[.int .i64 y.f0, .int .i64 y.f1, .string y.f2]] ++ lb) (grow (wr.drewN q) os) fun e w' => e = .returned (.bool (decide (x = y))) ∧ ∃ q' os', w' = grow ((grow (wr.drewN q) os).drewN q') os' := fun q os =>
          (HP.out x y _ (fun k hk1 hk2 => by
            show (wr.heap ++ os)[k]? = _
            rw [Array.getElem?_append_left (Nat.lt_of_lt_of_le hk1 HB.out.size)]
            exact HB.out.block k hk1)).mono fun _ _ ⟨he, hb⟩ => ⟨he, hb.grown⟩
        have HXY := Aside0.mk (And.intro hx hy)
        clear hx hy hgr
        by_cases hdup : x = y
        · have hd : decide (x = y) = true := decide_eq_true hdup
          rw [hd] at hcg
          have HDUP := Aside0.mk hdup
          clear hd hdup
          go_wp2_with fail
          go_quiet_grown (first | (go_at_fn g1; refine Calls.grown_of (hcg _ _)))
          have HB1 := Aside0.mk (below_grownW HB.out HB.out.size nq osq)
          clear hcg cx0 cx1 cx2 cy0 cy1 cy2 HB
          generalize grow (wr.drewN nq) osq = wq at HB1 ⊢
          have cp1 : (kp : Int) + 1 ≤ (n : Int) := by omega
          have cp2 : (n : Int) ≤ (cap : Int) := by have := HG.out.2.2; have := HN.out; omega
          have cp3 : ¬ cap = kp + 1 := by have := HG.out.2.2; have := HN.out; omega
          go_wp2
          go_loopg [5, 7] n (fun gg s5 s7 wr => ∃ (kk k2 : Nat) (ys : Array V), s5 = .int .i64 kk ∧ s7 = .int .i64 k2 ∧ 1 ≤ k2 ∧ kp + 1 + k2 ≤ n ∧ n - (kp + 1 + k2) ≤ gg ∧ Aside0 (w.grownBy wr (some g)) ∧ Aside0 (Kd.R k25 25 wr base ok (.slice (some ⟨g, 0, none⟩) n cap) ys.toList) ∧ Lib.CompInv xs.toArray (kp + 1 + k2) kk ys)
          case atStart =>
            refine ⟨kp + 1, 1, xs.toArray, by go_num, rfl, Nat.le_refl _, by omega, by omega, ⟨grownBy_of_below HB1.out _⟩, ⟨?_⟩, Lib.CompInv.start HA.out (Lib.keeps_neg (by omega) ?_)⟩
            · have h5 := Kd.R_below HR.out HB1.out
              rw [HO.out, ← HN.out] at h5
              exact h5
            · rw [Nat.add_sub_cancel, HXY.out.1, HXY.out.2]; exact HDUP.out
          case round =>
            obtain ⟨kk, k2, ys, rfl, rfl, h1, hle2, hg2, HGR, HRY, hI⟩ := hrel
            have hkk := hI.lt
            have hds : ys.size = n := by rw [hI.size, HN0.out]
            have HI := Aside0.mk hI
            have hgw : g < wr.heap.size := Nat.lt_of_lt_of_le HG.out.2.1 HGR.out.size
            have hYH : HoldsK encV 3 wr g 0 ys := holds_of_R HRY.out
            by_cases hlt2 : kp + 1 + k2 < n
            · obtain ⟨kq, rfl⟩ : ∃ kq, k2 = kq + 1 := ⟨k2 - 1, by omega⟩
              have hwq : IntKind.i64.wrap (kq : Int) = (kq : Int) := by rw [IntKind.wrap_i64]; omega
              have qz : (kq : Int) + 1 < (n : Int) - ((kp : Int) + 1) := by omega
              have qz1 : (kq : Int) < (n : Int) - ((kp : Int) + 1) := by omega
              have qn : kq + 1 < n - (kp + 1) := by omega
              have qn1 : kq < n - (kp + 1) := by omega
              have q0 : (0 : Int) ≤ (kq : Int) + 1 := by omega
              have qe0 : ((kq : Int) + 1).toNat = kq + 1 := by omega
              obtain ⟨u, hu⟩ : ∃ u, xs.toArray[kp + 1 + (kq + 1)]! = u := ⟨_, rfl⟩
              obtain ⟨v, hv⟩ : ∃ v, xs.toArray[kp + 1 + kq]! = v := ⟨_, rfl⟩
              have HUV := Aside0.mk (And.intro hu hv)
              have cu : ∀ c, c < 3 → ∀ q os, (grow (wr.drewN q) os).cell? ⟨g, o + (kp + 1) * 3 + (kq + 1) * 3 + c, none⟩ = some ((encV u)[c]!) := fun c hc q os => by
                have h6 := (HoldsK.cell hYH (i := kp + 1 + (kq + 1)) (c := c) (by omega) hc).1
                rw [hI.high _ (by omega), hu] at h6
                rw [HO.out, show 0 + (kp + 1) * 3 + (kq + 1) * 3 + c = 0 + (kp + 1 + (kq + 1)) * 3 + c by omega]
                exact cell_grown hgw h6 q os
              have cv : ∀ c, c < 3 → ∀ q os, (grow (wr.drewN q) os).cell? ⟨g, o + (kp + 1) * 3 + kq * 3 + c, none⟩ = some ((encV v)[c]!) := fun c hc q os => by
                have h6 := (HoldsK.cell hYH (i := kp + 1 + kq) (c := c) (by omega) hc).1
                rw [hI.high _ (by omega), hv] at h6
                rw [HO.out, show 0 + (kp + 1) * 3 + kq * 3 + c = 0 + (kp + 1 + kq) * 3 + c by omega]
                exact cell_grown hgw h6 q os
              have cu0 : ∀ q os, (grow (wr.drewN q) os).cell? ⟨g, o + (kp + 1) * 3 + (kq + 1) * 3, none⟩ = some (.int .i64 u.f0) := cu 0 (by omega)
              have cu1 : ∀ q os, (grow (wr.drewN q) os).cell? ⟨g, o + (kp + 1) * 3 + (kq + 1) * 3 + 1, none⟩ = some (.int .i64 u.f1) := cu 1 (by omega)
              have cu2 : ∀ q os, (grow (wr.drewN q) os).cell? ⟨g, o + (kp + 1) * 3 + (kq + 1) * 3 + 2, none⟩ = some (.string u.f2) := cu 2 (by omega)
              have cv0 : ∀ q os, (grow (wr.drewN q) os).cell? ⟨g, o + (kp + 1) * 3 + kq * 3, none⟩ = some (.int .i64 v.f0) := cv 0 (by omega)
              have cv1 : ∀ q os, (grow (wr.drewN q) os).cell? ⟨g, o + (kp + 1) * 3 + kq * 3 + 1, none⟩ = some (.int .i64 v.f1) := cv 1 (by omega)
              have cv2 : ∀ q os, (grow (wr.drewN q) os).cell? ⟨g, o + (kp + 1) * 3 + kq * 3 + 2, none⟩ = some (.string v.f2) := cv 2 (by omega)
              have hcg : ∀ q os, Calls Tryz.prog g1 (#[.agg #[.int .i64 u.f0, .int .i64 u.f1, .string u.f2], .agg #[.int .i64 v.f0, .int .i64 v.f1, .string v.f2]] ++ lb) (grow (wr.drewN q) os) fun e w' => e = .returned (.bool (decide (u = v))) ∧ ∃ q' os', w' = grow ((grow (wr.drewN q) os).drewN q') os' := fun q os =>
                (HP.out u v _ (fun k hk1 hk2 => (grownBy_growW HGR.out q os).block k hk1 (fun e => hk2 (Option.some.inj e)))).mono fun _ _ ⟨he, hb⟩ => ⟨he, hb.grown⟩
              clear cu cv hu hv
              by_cases huv : u = v
              · have hd : decide (u = v) = true := decide_eq_true huv
                rw [hd] at hcg
                have HUE := Aside0.mk huv
                clear hd huv hI hYH hds
                go_wp2_with fail
                go_quiet_grown (first | (go_at_fn g1; refine Calls.grown_of (hcg _ _)))
                go_wp2
                go_roundg (n - (kp + 1 + (kq + 1 + 1)))
                case measure => omega
                case rel =>
                  refine ⟨kk, kq + 1 + 1, ys, rfl, by go_num, by omega, by omega, Nat.le_refl _, ⟨grownBy_growW HGR.out _ _⟩, ⟨Kd.R_below HRY.out (below_grownW (Below.refl _ _) (Nat.le_refl _) _ _)⟩, ?_⟩
                  exact HI.out.skip (Lib.keeps_neg (by omega) (by rw [show kp + 1 + (kq + 1) - 1 = kp + 1 + kq by omega, HUV.out.1, HUV.out.2]; exact HUE.out))
              · have hd : decide (u = v) = false := decide_eq_false huv
                rw [hd] at hcg
                have HUE := Aside0.mk huv
                clear hd huv
                go_wp2_with fail
                go_quiet_grown (first | (go_at_fn g1; refine Calls.grown_of (hcg _ _)))
                have HG3 := Aside0.mk (grownBy_growW HGR.out nq osq)
                have HR3 := Aside0.mk (Kd.R_below HRY.out (below_grownW (Below.refl _ _) (Nat.le_refl _) nq osq))
                have du0 := cu0 nq osq
                have du1 := cu1 nq osq
                have du2 := cu2 nq osq
                clear cu0 cu1 cu2 cv0 cv1 cv2 hcg hI HGR HRY hYH
                generalize grow (wr.drewN nq) osq = w3 at HG3 HR3 du0 du1 du2 ⊢
                have hYH : HoldsK encV 3 w3 g 0 ys := holds_of_R HR3.out
                have kz : (kk : Int) < (n : Int) := by omega
                have ck : ∀ c, c < 3 → (∃ z, w3.cell? ⟨g, o + kk * 3 + c, none⟩ = some z) ∧ w3.frozen? ⟨g, o + kk * 3 + c, none⟩ = false := fun c hc => by
                  have h6 := HoldsK.cell hYH (i := kk) (c := c) (by omega) hc
                  rw [HO.out]
                  exact ⟨⟨_, h6.1⟩, h6.2⟩
                obtain ⟨⟨z0, ck0⟩, fk0⟩ := ck 0 (by omega)
                obtain ⟨⟨z1, ck1⟩, fk1⟩ := ck 1 (by omega)
                obtain ⟨⟨z2, ck2⟩, fk2⟩ := ck 2 (by omega)
                rw [Nat.add_zero] at ck0 fk0
                clear ck hYH hds
                go_wp2
                go_roundg (n - (kp + 1 + (kq + 1 + 1)))
                case measure => omega
                case rel =>
                  obtain ⟨hp1, hp2⟩ := row_put HR3.out kk (by omega) u
                  have e : ((w3.setCell ⟨g, o + kk * 3, none⟩ (.int .i64 u.f0)).setCell ⟨g, o + kk * 3 + 1, none⟩ (.int .i64 u.f1)).setCell ⟨g, o + kk * 3 + 2, none⟩ (.string u.f2) = w3.setCells g (kk * 3) (encV u) := by rw [HO.out, Nat.zero_add]; rfl
                  refine ⟨kk + 1, kq + 1 + 1, ys.setIfInBounds kk u, by go_num, by go_num, by omega, by omega, Nat.le_refl _, ⟨?_⟩, ⟨?_⟩, ?_⟩
                  · rw [e]; exact grownBy_on HG3.out hp2
                  · rw [e, show (ys.setIfInBounds kk u).toList = ys.toList.set kk u by simp]; exact hp1
                  · have h8 := HI.out.keep (by rw [HN0.out]; exact hlt2) (Lib.keeps_pos (by rw [show kp + 1 + (kq + 1) - 1 = kp + 1 + kq by omega, HUV.out.1, HUV.out.2]; exact HUE.out))
                    rw [HUV.out.1] at h8
                    exact h8
            · have hend : kp + 1 + k2 = n := by omega
              have kz : (kk : Int) ≤ (n : Int) := by omega
              have kz1 : kk ≤ n := by omega
              have kz2 : ¬ cap = kk := by have := HG.out.2.2; have := HN.out; omega
              have kend : ¬ (k2 : Int) < (n : Int) - ((kp : Int) + 1) := by omega
              have kend1 : ¬ k2 < n - (kp + 1) := by omega
              have hcl : ∀ ty, (Builtin.clear_ #[22] ty #[.slice (some ⟨g, o + kk * 3, none⟩) (n - kk) (cap - kk)]).run Tryz.prog wr = .ok (.tuple #[]) (wr.setCells g (o + kk * 3) (Builtin.zeroCells #[.int .i64 0, .int .i64 0, .string ⟨#[]⟩] (n - kk)).toList) := fun ty => by
                have h6 : ∀ j, j < (n - kk) * 3 → (wr.cell? ⟨g, o + kk * 3 + j, none⟩).isSome = true ∧ wr.frozen? ⟨g, o + kk * 3 + j, none⟩ = false := fun j hj => by
                  have h7 := HoldsK.cell hYH (i := kk + j / 3) (c := j % 3) (by omega) (by omega)
                  rw [show 0 + (kk + j / 3) * 3 + j % 3 = kk * 3 + j by omega] at h7
                  rw [HO.out, Nat.zero_add, h7.1]
                  exact ⟨rfl, h7.2⟩
                exact run_clear_V ty g (o + kk * 3) (n - kk) (cap - kk) (by omega) (fun j hj => (h6 j hj).1) (fun j hj => (h6 j hj).2)
              have HRC := Aside0.mk (row_cut HRY.out kk (by rw [Array.length_toList]; omega) (Builtin.zeroCells #[.int .i64 0, .int .i64 0, .string ⟨#[]⟩] (n - kk)).toList)
              have HDS := Aside0.mk hds
              have HEND := Aside0.mk hend
              clear hI hYH hds hend hkk
              generalize (Builtin.zeroCells #[.int .i64 0, .int .i64 0, .string ⟨#[]⟩] (n - kk)).toList = zs at hcl HRC
              go_wp2
              go_ret
              have hI := HI.out
              rw [HEND.out] at hI
              have e : onceV xs = ys.toList.take kk := by
                have e1 : onceV xs = Lib.compactUpTo xs.toArray n := by unfold onceV; rw [HN.out]
                rw [e1]
                refine List.ext_getElem? fun j => ?_
                by_cases hj : j < kk
                · have := hI.low j hj
                  rw [this, List.getElem?_take_of_lt hj, Array.getElem?_toList]
                  have : j < ys.size := by have := HDS.out; omega
                  simp [this]
                · rw [List.getElem?_eq_none (by rw [hI.len]; omega), List.getElem?_eq_none (by rw [List.length_take]; omega)]
              have hl : (onceV xs).length = kk := by
                have e1 : onceV xs = Lib.compactUpTo xs.toArray n := by unfold onceV; rw [HN.out]
                rw [e1, hI.len]
              have e3 : wr.setCells g (o + kk * 3) zs = wr.setCells g (kk * 3) zs := by rw [HO.out, Nat.zero_add]
              refine ⟨cap, by rw [hl]; rfl, ?_, fun B w0 hB hb hs => ?_⟩
              · rw [e3, hl, e, HO.out]
                exact HRC.out.1
              · rw [e3]
                exact below_of_grownBy hb hs (Nat.le_trans hB HG.out.1) (grownBy_on HGR.out HRC.out.2)
        · have hd : decide (x = y) = false := decide_eq_false hdup
          rw [hd] at hcg
          have HDUP := Aside0.mk hdup
          clear hd hdup
          go_wp2_with fail
          go_quiet_grown (first | (go_at_fn g1; refine Calls.grown_of (hcg _ _)))
          go_wp2
          go_roundg (n - (kp + 1 + 1))
          case measure => omega
          case rel =>
            refine ⟨kp + 1 + 1, by omega, by omega, Nat.le_refl _, by go_num, ⟨below_grownW HB.out HB.out.size _ _⟩, ⟨fun j hj => ?_⟩⟩
            by_cases e : j = kp + 1
            · subst e
              exact Lib.keeps_pos (by rw [Nat.add_sub_cancel, HXY.out.1, HXY.out.2]; exact HDUP.out)
            · exact HA.out j (by omega)
      · have hkn : k = n := by omega
        subst hkn
        go_wp2
        go_ret
        have e : onceV xs = xs := onceV_all xs (fun j hj => HA.out j (by have := HN.out; omega))
        refine ⟨cap, by rw [e, ← HN.out]; rfl, ?_, fun B w0 hB hb hs => below_then hb hs HB.out⟩
        rw [e]
        exact Kd.R_below HR.out HB.out
set_option maxHeartbeats 1000000 in
theorem compV_none.calls (fv : Value) (w : World) : Calls Tryz.prog 61 #[.slice none 0 0, fv] w fun e w' => e = .returned (.slice none 0 0) ∧ w' = w := by
  go_enter Tryz.func61, Tryz.ntmps61
  go_wp2
  go_ret
  exact ⟨rfl, rfl⟩

theorem compVany.calls (g1 : Nat) (lb : Array Value) (eg : ∀ args w, (callFunc g1 args).run Tryz.prog w = .ok (.enter g1 args) w) (v : Value) (xs : List V) (w : World) (base : Nat) (ok : Nat → Prop) (h : Kd.R k25 25 w base ok v xs) (hlen : xs.length < 4611686018427387904)
    (hp : ∀ (x y : V) (W : World), (∀ k, k < w.heap.size → some k ≠ v.ownBlock → W.heap[k]? = w.heap[k]?) → Calls Tryz.prog g1 (#[.agg #[.int .i64 x.f0, .int .i64 x.f1, .string x.f2], .agg #[.int .i64 y.f0, .int .i64 y.f1, .string y.f2]] ++ lb) W fun e w' => e = .returned (.bool (decide (x = y))) ∧ BelowD W.heap.size W w') :
    Calls Tryz.prog 61 #[v, .func (.func g1) #[] lb] w fun e w' => ∃ v' : Value, e = .returned v' ∧ Kd.R k25 25 w' base ok v' (onceV xs) ∧ (∀ (B : Nat) (w0 : World), B ≤ base → Below B w0 w → B ≤ w.heap.size → Below B w0 w') := by
  obtain ⟨inner, ho⟩ := Kd.R_own h
  rcases ho.2 with ⟨rfl, h0⟩ | ⟨g, cap, cur, rfl, hb, hh, _⟩
  · have hx : xs = [] := List.length_eq_zero_iff.1 h0
    subst hx
    refine (compV_none.calls (.func (.func g1) #[] lb) w).mono ?_
    rintro e w' ⟨rfl, rfl⟩
    exact ⟨_, rfl, h, fun _ _ _ hB _ => hB⟩
  · refine (compV.calls g1 lb eg g 0 cap xs w base ok rfl h hlen (fun x y W hk => hp x y W fun k h1 h2 => hk k h1 (fun e => h2 (by rw [e]; rfl)))).mono ?_
    rintro e w' ⟨c', rfl, h1, h2⟩
    exact ⟨_, rfl, h1, h2⟩
end


end Go.Proofs.YtinhpbmoiamepaaGreatDoor.Q
