/- Lemmas for the claim: contracts of functions and facts about what they compute, part 4 (texts put together, and cut down to what is used, by a program of ours). -/
import Derived.Test.YtmhobbdedmjmnaaGreatDoorMStrings2
section
namespace Go.Proofs.YtmhobbdedmjmnaaGreatDoor.Q
open Go.RowKit Go.Proofs.YtmhobbdedmjmnaaGreatDoorW.PrintWords Go.Proofs.YtmhobbdedmjmnaaGreatDoorW.PrintLast Go.Proofs.YtmhobbdedmjmnaaGreatDoorW.PrintMore
attribute [local go_sem] max2_int min2_int max_two min_two max_three min_three max_four min_four
set_option linter.unusedVariables false
set_option linter.unusedSimpArgs false
theorem cfR_nil (b : List V) : cfR [] b = if 0 < b.length then -1 else 0 := by
  cases b <;> rfl
theorem cfR_cons (x y : V) (a b : List V) : cfR (x :: a) (y :: b) = if cfV x y ≠ 0 then cfV x y else cfR a b := rfl
set_option maxHeartbeats 2000000 in
set_option maxRecDepth 100000 in
theorem cmpRows.calls (A0 B0 : Option Addr) (c0 c1 : Nat) (a b : List V) (w : World) (hr0 : Kd.C k61 w A0 a.length a) (hr1 : Kd.C k61 w B0 b.length b) (la : a.length ≤ 4611686018427387904) (lb : b.length ≤ 4611686018427387904) :
    Calls Tryz.prog 102 #[.slice A0 a.length c0, .slice B0 b.length c1, .func (.func 101) #[] #[]] w fun e w' => e = .returned (.int .i64 (cfR a b)) ∧ BelowD w.heap.size w w' := by
  have hu61 := Tryz.underlying61
  have eg : ∀ args w, (callFunc 101 args).run Tryz.prog w = .ok (.enter 101 args) w := enters_of Tryz.func101 (by kernel_rfl) rfl
  have HR0 := aM hr0
  have HR1 := aM hr1
  have HB := aM (BelowD.refl w.heap.size w)
  obtain ⟨n, hn⟩ : ∃ n, n = a.length := ⟨_, rfl⟩
  obtain ⟨m, hm⟩ : ∃ m, m = b.length := ⟨_, rfl⟩
  rw [← hn, ← hm]
  have hle : n ≤ 4611686018427387904 := by omega
  have hle2 : m ≤ 4611686018427387904 := by omega
  have HN := aM hn
  have HM := aM hm
  clear hr0 hr1 hn hm la lb
  go_enter Tryz.func102, Tryz.ntmps102
  go_wp2
  go_loopg [13] n (fun gg s13 wr => ∃ kk : Nat, kk ≤ n ∧ kk ≤ m ∧ n - kk ≤ gg ∧ s13 = .int .i64 kk ∧ Aside0 (BelowD w.heap.size w wr) ∧ Aside0 (cfR a b = cfR (a.drop kk) (b.drop kk)))
  case atStart => exact ⟨0, Nat.zero_le _, Nat.zero_le _, by omega, rfl, HB, ⟨rfl⟩⟩
  case round =>
    clear HB
    obtain ⟨kk, hkk, hkm, hg, rfl, HB, HA⟩ := hrel
    by_cases hlt : kk < n
    · have hltz : (kk : Int) < (n : Int) := by omega
      have hlt' : kk < a.length := by have := HN.out; omega
      obtain ⟨ad, e1, hx0, hx1, hx2⟩ := at_T61 HR0.out (kk : Int) (by omega) (by omega)
      cases e1
      rw [rd_at _ _ hlt'] at hx0 hx1 hx2
      simp only [Int.toNat_natCast] at hx0 hx1 hx2
      replace hx0 := (HB.out.b.cell (World.block_lt_of_cell? w _ hx0)).trans hx0
      replace hx1 := (HB.out.b.cell (World.block_lt_of_cell? w _ hx1)).trans hx1
      replace hx2 := (HB.out.b.cell (World.block_lt_of_cell? w _ hx2)).trans hx2
      have EA := aM (List.drop_eq_getElem_cons hlt')
      generalize a[kk] = x at hx0 hx1 hx2 EA
      by_cases hlm : kk < m
      · have hlmz : ¬ (m : Int) ≤ (kk : Int) := by omega
        have hlm' : kk < b.length := by have := HM.out; omega
        have hmz : (kk : Int) < (m : Int) := by omega
        obtain ⟨bd, e2, hy0, hy1, hy2⟩ := at_T61 HR1.out (kk : Int) (by omega) (by omega)
        cases e2
        rw [rd_at _ _ hlm'] at hy0 hy1 hy2
        simp only [Int.toNat_natCast] at hy0 hy1 hy2
        replace hy0 := (HB.out.b.cell (World.block_lt_of_cell? w _ hy0)).trans hy0
        replace hy1 := (HB.out.b.cell (World.block_lt_of_cell? w _ hy1)).trans hy1
        replace hy2 := (HB.out.b.cell (World.block_lt_of_cell? w _ hy2)).trans hy2
        have EB := aM (List.drop_eq_getElem_cons hlm')
        generalize b[kk] = y at hy0 hy1 hy2 EB
        replace hy0 := fun o => Lib.cell?_alloc_some o hy0
        replace hy1 := fun o => Lib.cell?_alloc_some o hy1
        replace hy2 := fun o => Lib.cell?_alloc_some o hy2
        have HC := aM (fun W => value_Order.grows 4 x.f0 x.f1 x.f2 y.f0 y.f1 y.f2 (cfV x y) W (by rw [value_Order.at]; rfl))
        clear hlt' hlm'
        by_cases hc : cfV x y = 0
        · rw [hc] at HC
          have HZ := aM hc
          clear hc
          go_wp2_with (go_at_fn 101; refine (HC.out _).mono ?_; rintro e w' ⟨rfl, hb'⟩)
          go_roundg (n - (kk + 1))
          case measure => omega
          case rel =>
            refine ⟨kk + 1, by omega, by omega, Nat.le_refl _, by go_num, ⟨belowD_step (dA (dA HB.out _) _) hb'⟩, ⟨?_⟩⟩
            rw [HA.out, EA.out, EB.out, cfR_cons, if_neg (by rw [HZ.out]; simp)]
        · have hcz : (cfV x y != 0) = true := by simpa using hc
          have HZ := aM hc
          have HE : Aside0 (cfR a b = cfV x y) := ⟨by rw [HA.out, EA.out, EB.out, cfR_cons, if_pos HZ.out]⟩
          clear hc
          generalize cfV x y = r at HC hcz HE
          go_wp2_with (go_at_fn 101; refine (HC.out _).mono ?_; rintro e w' ⟨rfl, hb'⟩)
          go_ret
          exact ⟨by rw [HE.out]; rfl, belowD_step (dA (dA HB.out _) _) hb'⟩
      · have hlmz : (m : Int) ≤ (kk : Int) := by omega
        have HE : Aside0 (cfR a b = 1) := ⟨by
          rw [HA.out, EA.out, List.drop_of_length_le (show b.length ≤ kk by have := HM.out; omega)]
          rfl⟩
        go_wp2
        go_ret
        exact ⟨by rw [HE.out]; rfl, dA HB.out _⟩
    · have hkn : kk = n := by omega
      have HE : Aside0 (cfR a b = if n < m then -1 else 0) := ⟨by
        rw [HA.out, List.drop_of_length_le (show a.length ≤ kk by have := HN.out; omega), cfR_nil, List.length_drop, ← HM.out]
        by_cases q : n < m
        · rw [if_pos q, if_pos (by omega)]
        · rw [if_neg q, if_neg (by omega)]⟩
      subst hkn
      by_cases q : kk < m
      · have qz : (kk : Int) < (m : Int) := by omega
        go_wp2
        go_ret
        exact ⟨by rw [HE.out, if_pos q]; rfl, HB.out⟩
      · have qz : ¬ (kk : Int) < (m : Int) := by omega
        go_wp2
        go_ret
        exact ⟨by rw [HE.out, if_neg q]; rfl, HB.out⟩
def rows_Order.f (l0 l1 : List V) : Option Int := if l0.length ≤ 4611686018427387904 ∧ l1.length ≤ 4611686018427387904 then some (cfR l0 l1) else none
set_option maxHeartbeats 1000000 in
theorem rows_Order.grows (A0 A1 : Option Addr) (c0 c1 : Nat) (l0 l1 : List V) (r : Int) (w : World) (hr0 : Kd.C k61 w A0 l0.length l0) (hr1 : Kd.C k61 w A1 l1.length l1) (h : rows_Order.f l0 l1 = some r) :
    Calls Tryz.prog 63 #[.slice A0 l0.length c0, .slice A1 l1.length c1] w fun e w' => e = .returned (.int .i64 r) ∧ BelowD w.heap.size w w' := by
  unfold rows_Order.f at h
  by_cases hl : l0.length ≤ 4611686018427387904 ∧ l1.length ≤ 4611686018427387904
  case neg => rw [if_neg hl] at h; cases h
  rw [if_pos hl] at h
  obtain rfl := Option.some.inj h
  have HC := aM (cmpRows.calls A0 A1 c0 c1 l0 l1 w hr0 hr1 hl.1 hl.2)
  clear hr0 hr1 hl h
  generalize cfR l0 l1 = r at HC ⊢
  generalize l0.length = n at HC ⊢
  generalize l1.length = m at HC ⊢
  go_enter Tryz.func63, Tryz.ntmps63
  go_wp2_with (go_at_call 102; refine HC.out.mono ?_; rintro e w' ⟨rfl, hb'⟩)
  go_ret
  exact ⟨rfl, hb'⟩
abbrev HdV (w : World) (base : Nat) (ok : Nat → Prop) : Type := {p : Value × List V // Kd.R k61 61 w base ok p.1 p.2 ∧ p.2.length ≤ 4611686018427387904}
instance (w : World) (base : Nat) (ok : Nat → Prop) : Inhabited (HdV w base ok) := ⟨⟨(.slice none 0 0, []), Kd.R_nil _ _ _ _ _, by decide⟩⟩
section
open Go.Sort
set_option maxHeartbeats 4000000 in
set_option maxRecDepth 100000 in
theorem compR.calls {α : Type} (d : Kd α) (hsz : d.sz = 1) (f : α → List V) (hform : ∀ (W : World) (b : Nat) (o : Nat → Prop) (x : α) (c : Value), d.M W b o x [c] → ∃ A n cc, c = .slice A n cc)
    (g1 : Nat) (lb : Array Value) (eg : ∀ args w, (callFunc g1 args).run Tryz.prog w = .ok (.enter g1 args) w) (g o cap : Nat) (xs : List α) (w : World) (base : Nat) (ok : Nat → Prop) (ho : o = 0) (h : Kd.R d 40 w base ok (.slice (some ⟨g, o, none⟩) xs.length cap) xs) (hlen : xs.length < 4611686018427387904)
    (hp : ∀ (x y : α) (cx cy : Value) (W : World), x ∈ xs → y ∈ xs → d.M W base (fun k => ok k ∧ some k ≠ (Value.slice (some ⟨g, 0, none⟩) xs.length cap).ownBlock) x [cx] → d.M W base (fun k => ok k ∧ some k ≠ (Value.slice (some ⟨g, 0, none⟩) xs.length cap).ownBlock) y [cy] → (∀ k, k < w.heap.size → k ≠ g → W.heap[k]? = w.heap[k]?) →
      Calls Tryz.prog g1 (#[cx, cy] ++ lb) W fun e w' => e = .returned (.bool (decide (f x = f y))) ∧ BelowD W.heap.size W w') :
    Calls Tryz.prog 145 #[.slice (some ⟨g, o, none⟩) xs.length cap, .func (.func g1) #[] lb] w fun e w' => ∃ c' : Nat, e = .returned (.slice (some ⟨g, o, none⟩) (onceU f xs xs.length).length c') ∧ Kd.R d 40 w' base ok (.slice (some ⟨g, o, none⟩) (onceU f xs xs.length).length c') (onceU f xs xs.length) ∧ (∀ (B : Nat) (w0 : World), B ≤ base → Below B w0 w → B ≤ w.heap.size → Below B w0 w') := by
  have mixed : Tryz.prog.follows .mixedOrders = true := by kernel_rfl
  have HO := aM ho
  have HR := aM h
  have HP := aM hp
  have HF := aM hform
  have HSZ := aM hsz
  have hbg : base ≤ g ∧ g < w.heap.size ∧ xs.length ≤ cap := by
    obtain ⟨inner, hw⟩ := Kd.R_own h
    rcases hw.2 with ⟨he, _⟩ | ⟨g', cap', cur, he, hb, hh, hc, _⟩
    · cases he
    · injection he with he1 he2 he3
      injection he1 with he1
      injection he1 with he1
      subst he1 he3
      exact ⟨hb, blk_lt hh, hc⟩
  have HG := aM hbg
  clear h hp ho hbg hform hsz
  obtain ⟨n, hn⟩ : ∃ n, n = xs.length := ⟨_, rfl⟩
  have HN := aM hn
  rw [← hn]
  clear hn
  have hle : n < 4611686018427387904 := by have := HN.out; omega
  clear hlen
  -- an element's cell, and what it holds, in whatever world that has grown from here
  have HCELL : Aside0 (∀ (W : World) (ys : List α), ys.length = n → Kd.R d 40 W base ok (.slice (some ⟨g, 0, none⟩) n cap) ys → ∀ i (hi : i < ys.length), ∃ A m cc, W.cell? ⟨g, i, none⟩ = some (.slice A m cc) ∧ d.M W base (fun k => ok k ∧ some k ≠ (Value.slice (some ⟨g, 0, none⟩) n cap).ownBlock) ys[i] [.slice A m cc]) := ⟨fun W ys hl hR i hi => by
    obtain ⟨c, h1, h2, _⟩ := row_at1 HSZ.out hR i hi
    obtain ⟨A, m, cc, rfl⟩ := HF.out _ _ _ _ _ h2
    exact ⟨A, m, cc, h1, h2⟩⟩
  by_cases h2 : n < 2
  · have h2z : decide ((n : Int) < 2) = true := by simp; omega
    go_enter Tryz.func145, Tryz.ntmps145
    go_wp2
    go_ret
    have e : onceU f xs n = xs := by rw [HN.out]; exact onceU_one f xs (by have := HN.out; omega)
    refine ⟨cap, by rw [e, ← HN.out]; rfl, ?_, fun B w0 _ hB _ => hB⟩
    rw [e]
    exact HR.out
  · have h2z : decide ((n : Int) < 2) = false := by simp; omega
    go_enter Tryz.func145, Tryz.ntmps145
    go_wp2
    go_loopg [5] n (fun gg s5 wr => ∃ k : Nat, 1 ≤ k ∧ k ≤ n ∧ n - k ≤ gg ∧ s5 = .int .i64 k ∧ Aside0 (Below w.heap.size w wr) ∧ Aside0 (∀ j, j < k → Lib.keeps (xs.map f).toArray j = true))
    case atStart => exact ⟨1, Nat.le_refl _, by omega, by omega, rfl, ⟨Below.refl _ _⟩, ⟨Lib.keeps_lt_one _⟩⟩
    case round =>
      obtain ⟨k, hk1, hk, hg, rfl, HB, HA⟩ := hrel
      by_cases hlt : k < n
      · obtain ⟨kp, rfl⟩ : ∃ kp, k = kp + 1 := ⟨k - 1, by omega⟩
        have hwp : IntKind.i64.wrap (kp : Int) = (kp : Int) := by rw [IntKind.wrap_i64]; omega
        have jz : (kp : Int) + 1 < (n : Int) := by omega
        have jz1 : (kp : Int) < (n : Int) := by omega
        have p0 : (0 : Int) ≤ (kp : Int) + 1 := by omega
        have e0 : ((kp : Int) + 1).toNat = kp + 1 := by omega
        have hgw : g < wr.heap.size := Nat.lt_of_lt_of_le HG.out.2.1 HB.out.size
        have hR1 : Kd.R d 40 wr base ok (.slice (some ⟨g, 0, none⟩) n cap) xs := by
          have h5 := Kd.R_below HR.out HB.out
          rw [HO.out, ← HN.out] at h5
          exact h5
        have i1 : kp + 1 < xs.length := by have := HN.out; omega
        have i2 : kp < xs.length := by have := HN.out; omega
        obtain ⟨Ax, mx, cx, hcx, hMx⟩ := HCELL.out wr xs HN.out.symm hR1 (kp + 1) i1
        obtain ⟨Ay, my, cy, hcy, hMy⟩ := HCELL.out wr xs HN.out.symm hR1 kp i2
        have cx0 : ∀ q os, (grow (wr.drewN q) os).cell? ⟨g, o + (kp + 1), none⟩ = some (.slice Ax mx cx) := fun q os => by
          rw [HO.out, Nat.zero_add]; exact cell_grown hgw hcx q os
        have cy0 : ∀ q os, (grow (wr.drewN q) os).cell? ⟨g, o + kp, none⟩ = some (.slice Ay my cy) := fun q os => by
          rw [HO.out, Nat.zero_add]; exact cell_grown hgw hcy q os
        have hcg : ∀ q os, Calls Tryz.prog g1 (#[.slice Ax mx cx, .slice Ay my cy] ++ lb) (grow (wr.drewN q) os) fun e w' => e = .returned (.bool (decide (f xs[kp + 1] = f xs[kp]))) ∧ ∃ q' os', w' = grow ((grow (wr.drewN q) os).drewN q') os' := fun q os =>
          (HP.out xs[kp + 1] xs[kp] _ _ _ (List.getElem_mem i1) (List.getElem_mem i2)
            (by rw [← HN.out]; exact Kd.M_below hMx (below_grownW (Below.refl _ _) (Nat.le_refl _) q os))
            (by rw [← HN.out]; exact Kd.M_below hMy (below_grownW (Below.refl _ _) (Nat.le_refl _) q os))
            (fun k hk1 hk2 => by
              show (wr.heap ++ os)[k]? = _
              rw [Array.getElem?_append_left (Nat.lt_of_lt_of_le hk1 HB.out.size)]
              exact HB.out.block k hk1)).mono fun _ _ ⟨he, hb⟩ => ⟨he, hb.grown⟩
        have HKP : Aside0 (Lib.keeps (xs.map f).toArray (kp + 1) = !decide (f xs[kp + 1] = f xs[kp])) := ⟨keeps_at (f := f) (Nat.succ_pos _) i1⟩
        generalize decide (f xs[kp + 1] = f xs[kp]) = b at hcg HKP
        clear hR1 hcx hMx hcy hMy i1 i2
        cases b with
        | true =>
          go_wp2_with fail
          go_quiet_grown (first | (go_at_fn g1; refine Calls.grown_of (hcg _ _)))
          have HB1 := aM (below_grownW HB.out HB.out.size nq osq)
          clear hcg cx0 cy0 HB hgw
          generalize grow (wr.drewN nq) osq = wq at HB1 ⊢
          have cp1 : (kp : Int) + 1 ≤ (n : Int) := by omega
          have cp2 : (n : Int) ≤ (cap : Int) := by have := HG.out.2.2; have := HN.out; omega
          have cp3 : ¬ cap = kp + 1 := by have := HG.out.2.2; have := HN.out; omega
          go_wp2
          go_loopg [5, 7] n (fun gg s5 s7 wr => ∃ (kk k2 : Nat), s5 = .int .i64 kk ∧ s7 = .int .i64 k2 ∧ 1 ≤ k2 ∧ kp + 1 + k2 ≤ n ∧ n - (kp + 1 + k2) ≤ gg ∧ kk < kp + 1 + k2 ∧ Aside0 (kk = (onceU f xs (kp + 1 + k2)).length) ∧ Aside0 (w.grownBy wr (some g)) ∧ Aside0 (Kd.R d 40 wr base ok (.slice (some ⟨g, 0, none⟩) n cap) (onceU f xs (kp + 1 + k2) ++ xs.drop (onceU f xs (kp + 1 + k2)).length)))
          case atStart =>
            have e1 : onceU f xs (kp + 1 + 1) = xs.take (kp + 1) := by rw [onceU_skip (by rw [HKP.out]; rfl), onceU_all f xs (kp + 1) HA.out]
            have e2 : (xs.take (kp + 1)).length = kp + 1 := by rw [List.length_take]; have := HN.out; omega
            refine ⟨kp + 1, 1, by go_num, rfl, Nat.le_refl _, by omega, by omega, by omega, ⟨by rw [e1, e2]⟩, ⟨grownBy_of_below HB1.out _⟩, ⟨?_⟩⟩
            rw [e1, e2, List.take_append_drop]
            have h5 := Kd.R_below HR.out HB1.out
            rw [HO.out, ← HN.out] at h5
            exact h5
          case round =>
            obtain ⟨kk, k2, rfl, rfl, h1, hle2, hg2, hkk, HKK, HGR, HRY⟩ := hrel
            have hgw : g < wr.heap.size := Nat.lt_of_lt_of_le HG.out.2.1 HGR.out.size
            have hcl : (onceU f xs (kp + 1 + k2) ++ xs.drop (onceU f xs (kp + 1 + k2)).length).length = n := by rw [cut_len (by have := HN.out; omega), HN.out]
            by_cases hlt2 : kp + 1 + k2 < n
            · obtain ⟨kq, rfl⟩ : ∃ kq, k2 = kq + 1 := ⟨k2 - 1, by omega⟩
              have hwq : IntKind.i64.wrap (kq : Int) = (kq : Int) := by rw [IntKind.wrap_i64]; omega
              have qz : (kq : Int) + 1 < (n : Int) - ((kp : Int) + 1) := by omega
              have qz1 : (kq : Int) < (n : Int) - ((kp : Int) + 1) := by omega
              have qn : kq + 1 < n - (kp + 1) := by omega
              have qn1 : kq < n - (kp + 1) := by omega
              have q0 : (0 : Int) ≤ (kq : Int) + 1 := by omega
              have qe0 : ((kq : Int) + 1).toNat = kq + 1 := by omega
              have i1 : kp + 1 + (kq + 1) < xs.length := by have := HN.out; omega
              have i2 : kp + 1 + kq < xs.length := by have := HN.out; omega
              obtain ⟨Au, mu, cu, hcu, hMu⟩ := HCELL.out wr _ hcl HRY.out (kp + 1 + (kq + 1)) (by rw [hcl]; exact hlt2)
              obtain ⟨Av, mv, cv, hcv, hMv⟩ := HCELL.out wr _ hcl HRY.out (kp + 1 + kq) (by rw [hcl]; omega)
              have gu : (onceU f xs (kp + 1 + (kq + 1)) ++ xs.drop (onceU f xs (kp + 1 + (kq + 1))).length)[kp + 1 + (kq + 1)]'(by rw [hcl]; exact hlt2) = xs[kp + 1 + (kq + 1)] := (List.getElem?_eq_some_iff.1 (cut_at (f := f) (l := xs) (m := kp + 1 + (kq + 1)) (j := kp + 1 + (kq + 1)) (by have := HKK.out; omega) i1)).2
              have gv : (onceU f xs (kp + 1 + (kq + 1)) ++ xs.drop (onceU f xs (kp + 1 + (kq + 1))).length)[kp + 1 + kq]'(by rw [hcl]; omega) = xs[kp + 1 + kq] := (List.getElem?_eq_some_iff.1 (cut_at (f := f) (l := xs) (m := kp + 1 + (kq + 1)) (j := kp + 1 + kq) (by have := HKK.out; omega) i2)).2
              rw [gu] at hMu
              rw [gv] at hMv
              have cu0 : ∀ q os, (grow (wr.drewN q) os).cell? ⟨g, o + (kp + 1) + (kq + 1), none⟩ = some (.slice Au mu cu) := fun q os => by
                rw [HO.out, Nat.zero_add]; exact cell_grown hgw hcu q os
              have cv0 : ∀ q os, (grow (wr.drewN q) os).cell? ⟨g, o + (kp + 1) + kq, none⟩ = some (.slice Av mv cv) := fun q os => by
                rw [HO.out, Nat.zero_add]; exact cell_grown hgw hcv q os
              have hcg : ∀ q os, Calls Tryz.prog g1 (#[.slice Au mu cu, .slice Av mv cv] ++ lb) (grow (wr.drewN q) os) fun e w' => e = .returned (.bool (decide (f xs[kp + 1 + (kq + 1)] = f xs[kp + 1 + kq]))) ∧ ∃ q' os', w' = grow ((grow (wr.drewN q) os).drewN q') os' := fun q os =>
                (HP.out xs[kp + 1 + (kq + 1)] xs[kp + 1 + kq] _ _ _ (List.getElem_mem i1) (List.getElem_mem i2)
                  (by rw [← HN.out]; exact Kd.M_below hMu (below_grownW (Below.refl _ _) (Nat.le_refl _) q os))
                  (by rw [← HN.out]; exact Kd.M_below hMv (below_grownW (Below.refl _ _) (Nat.le_refl _) q os))
                  (fun k hk1 hk2 => (grownBy_growW HGR.out q os).block k hk1 (fun e => hk2 (Option.some.inj e)))).mono fun _ _ ⟨he, hb⟩ => ⟨he, hb.grown⟩
              have HKQ : Aside0 (Lib.keeps (xs.map f).toArray (kp + 1 + (kq + 1)) = !decide (f xs[kp + 1 + (kq + 1)] = f xs[kp + 1 + kq])) := ⟨keeps_at (f := f) (by omega) i1⟩
              have HMU := aM hMu
              have HCU := aM hcu
              generalize decide (f xs[kp + 1 + (kq + 1)] = f xs[kp + 1 + kq]) = b at hcg HKQ
              have I1 := aM i1
              clear hcu hcv hMu hMv gu gv i2 hcl
              cases b with
              | true =>
                clear HMU i1
                go_wp2_with fail
                go_quiet_grown (first | (go_at_fn g1; refine Calls.grown_of (hcg _ _)))
                go_wp2
                go_roundg (n - (kp + 1 + (kq + 1 + 1)))
                case measure => omega
                case rel =>
                  have e1 : onceU f xs (kp + 1 + (kq + 1 + 1)) = onceU f xs (kp + 1 + (kq + 1)) := by
                    rw [show kp + 1 + (kq + 1 + 1) = kp + 1 + (kq + 1) + 1 by omega]
                    exact onceU_skip (by rw [HKQ.out]; rfl)
                  refine ⟨kk, kq + 1 + 1, rfl, by go_num, by omega, by omega, Nat.le_refl _, by omega, ⟨by rw [e1]; exact HKK.out⟩, ⟨grownBy_growW HGR.out _ _⟩, ⟨?_⟩⟩
                  rw [e1]
                  exact Kd.R_below HRY.out (below_grownW (Below.refl _ _) (Nat.le_refl _) _ _)
              | false =>
                go_wp2_with fail
                go_quiet_grown (first | (go_at_fn g1; refine Calls.grown_of (hcg _ _)))
                have HG3 := aM (grownBy_growW HGR.out nq osq)
                have HR3 := aM (Kd.R_below HRY.out (below_grownW (Below.refl _ _) (Nat.le_refl _) nq osq))
                have HM3 := aM (Kd.M_below HMU.out (below_grownW (Below.refl _ _) (Nat.le_refl _) nq osq))
                have du0 := cu0 nq osq
                clear cu0 cv0 hcg HGR HRY HMU
                generalize grow (wr.drewN nq) osq = w3 at HG3 HR3 HM3 du0 ⊢
                have kz : (kk : Int) < (n : Int) := by omega
                obtain ⟨ck, ck1, ck2, fk0⟩ := row_at1 HSZ.out HR3.out kk (by rw [cut_len (by have := HN.out; omega)]; have := HN.out; omega)
                have ck0 : w3.cell? ⟨g, o + kk, none⟩ = some ck := by rw [HO.out, Nat.zero_add]; exact ck1
                have fk1 : w3.frozen? ⟨g, o + kk, none⟩ = false := by rw [HO.out, Nat.zero_add]; exact fk0
                clear ck1 ck2 fk0
                go_wp2
                go_roundg (n - (kp + 1 + (kq + 1 + 1)))
                case measure => omega
                case rel =>
                  obtain ⟨hp1, hp2⟩ := row_put1 HSZ.out HR3.out kk (by omega) xs[kp + 1 + (kq + 1)] _ HM3.out
                  have e1 := onceU_keep (f := f) I1.out (by rw [HKQ.out]; rfl)
                  have e2 : (onceU f xs (kp + 1 + (kq + 1 + 1))).length = kk + 1 := by
                    rw [show kp + 1 + (kq + 1 + 1) = kp + 1 + (kq + 1) + 1 by omega, e1, List.length_append, ← HKK.out]; rfl
                  have e3 := cut_put (f := f) I1.out (by rw [← HKK.out]; have := HN.out; omega) (by rw [HKQ.out]; rfl)
                  refine ⟨kk + 1, kq + 1 + 1, by go_num, by go_num, by omega, by omega, Nat.le_refl _, by omega, ⟨e2.symm⟩, ⟨?_⟩, ⟨?_⟩⟩
                  · rw [HO.out, Nat.zero_add]; exact grownBy_on HG3.out hp2
                  · rw [show kp + 1 + (kq + 1 + 1) = kp + 1 + (kq + 1) + 1 by omega, ← e3, HO.out, Nat.zero_add, ← HKK.out]
                    rw [← HKK.out] at hp1
                    exact hp1
            · have hend : kp + 1 + k2 = n := by omega
              have kz : (kk : Int) ≤ (n : Int) := by omega
              have kz1 : kk ≤ n := by omega
              have kz2 : ¬ cap = kk := by have := HG.out.2.2; have := HN.out; omega
              have kend : ¬ (k2 : Int) < (n : Int) - ((kp : Int) + 1) := by omega
              have kend1 : ¬ k2 < n - (kp + 1) := by omega
              have hcl2 : ∀ ty, (Builtin.clear_ #[22] ty #[.slice (some ⟨g, o + kk, none⟩) (n - kk) (cap - kk)]).run Tryz.prog wr = .ok (.tuple #[]) (wr.setCells g (o + kk) (Builtin.zeroCells #[.slice none 0 0] (n - kk)).toList) := fun ty => by
                have h6 : ∀ j, j < n - kk → (wr.cell? ⟨g, o + kk + j, none⟩).isSome = true ∧ wr.frozen? ⟨g, o + kk + j, none⟩ = false := fun j hj => by
                  obtain ⟨c, h7, _, h8⟩ := row_at1 HSZ.out HRY.out (kk + j) (by rw [hcl]; omega)
                  rw [HO.out, Nat.zero_add, h7]
                  exact ⟨rfl, h8⟩
                exact run_clear_R ty g (o + kk) (n - kk) (cap - kk) (by omega) (fun j hj => (h6 j hj).1) (fun j hj => (h6 j hj).2)
              have HRC := aM (row_cut1 HSZ.out HRY.out kk (by rw [hcl]; omega) (Builtin.zeroCells #[.slice none 0 0] (n - kk)).toList)
              have HEND := aM hend
              clear hend hkk hcl
              generalize (Builtin.zeroCells #[.slice none 0 0] (n - kk)).toList = zs at hcl2 HRC
              go_wp2
              go_ret
              have e : onceU f xs n = onceU f xs (kp + 1 + k2) := by rw [HEND.out]
              have e3 : wr.setCells g (o + kk) zs = wr.setCells g kk zs := by rw [HO.out, Nat.zero_add]
              refine ⟨cap, by rw [e, ← HKK.out]; rfl, ?_, fun B w0 hB hb hs => ?_⟩
              · rw [e3, e, ← HKK.out, HO.out]
                have h9 := HRC.out.1
                rw [HKK.out, cut_take, ← HKK.out] at h9
                exact h9
              · rw [e3]
                exact below_of_grownBy hb hs (Nat.le_trans hB HG.out.1) (grownBy_on HGR.out HRC.out.2)
        | false =>
          go_wp2_with fail
          go_quiet_grown (first | (go_at_fn g1; refine Calls.grown_of (hcg _ _)))
          go_wp2
          go_roundg (n - (kp + 1 + 1))
          case measure => omega
          case rel =>
            refine ⟨kp + 1 + 1, by omega, by omega, Nat.le_refl _, by go_num, ⟨below_grownW HB.out HB.out.size _ _⟩, ⟨fun j hj => ?_⟩⟩
            by_cases e : j = kp + 1
            · subst e
              rw [HKP.out]; rfl
            · exact HA.out j (by omega)
      · have hkn : k = n := by omega
        subst hkn
        go_wp2
        go_ret
        have e : onceU f xs k = xs := by rw [onceU_all f xs k HA.out, HN.out, List.take_length]
        refine ⟨cap, by rw [e, ← HN.out]; rfl, ?_, fun B w0 hB hb hs => below_then hb hs HB.out⟩
        rw [e]
        exact Kd.R_below HR.out HB.out
set_option maxHeartbeats 1000000 in
theorem compR_none.calls (fv : Value) (w : World) : Calls Tryz.prog 145 #[.slice none 0 0, fv] w fun e w' => e = .returned (.slice none 0 0) ∧ w' = w := by
 go_enter Tryz.func145, Tryz.ntmps145
 go_wp2
 go_ret
 exact ⟨rfl, rfl⟩
end
end Go.Proofs.YtmhobbdedmjmnaaGreatDoor.Q
end
section
namespace Go.Proofs.YtmhobbdedmjmnaaGreatDoor.Q
open Go.RowKit Go.Proofs.YtmhobbdedmjmnaaGreatDoorW.PrintWords Go.Proofs.YtmhobbdedmjmnaaGreatDoorW.PrintLast Go.Proofs.YtmhobbdedmjmnaaGreatDoorW.PrintMore
attribute [local go_sem] max2_int min2_int max_two min_two max_three min_three max_four min_four
set_option linter.unusedVariables false
set_option linter.unusedSimpArgs false
theorem M_row_reads {e : Nat} {W : World} {b : Nat} {o : Nat → Prop} {x : List V} {c : Value} (h : (Kd.slice e k61).M W b o x [c]) : ∃ A cc, c = .slice A x.length cc ∧ x.length ≤ cc ∧ Kd.C k61 W A x.length x := by
  obtain ⟨v, hv, hR⟩ := h
  obtain ⟨A, cc, e1, h1, h2⟩ := Kd.R_reads hR
  have : c = v := by simpa using hv
  exact ⟨A, cc, this.trans e1, h1, h2⟩
set_option maxHeartbeats 1000000 in
theorem onceEqR.calls (gb : Nat) (x y : List V) (A0 A1 : Option Addr) (c0 c1 : Nat) (W : World) (hc : W.cell? ⟨gb, 0, none⟩ = some (.func (.func 63) #[] #[])) (hx : Kd.C k61 W A0 x.length x) (hy : Kd.C k61 W A1 y.length y) (lx : x.length ≤ 4611686018427387904) (ly : y.length ≤ 4611686018427387904) :
    Calls Tryz.prog 146 (#[.slice A0 x.length c0, .slice A1 y.length c1] ++ #[.pointer (some ⟨gb, 0, none⟩)]) W fun e w' => e = .returned (.bool (decide (x = y))) ∧ BelowD W.heap.size W w' := by
  have eg : ∀ args w, (callFunc 63 args).run Tryz.prog w = .ok (.enter 63 args) w := enters_of Tryz.func63 (by kernel_rfl) rfl
  have HC := aM (rows_Order.grows A0 A1 c0 c1 x y (cfR x y) W hx hy (by unfold rows_Order.f; rw [if_pos ⟨lx, ly⟩]))
  have HE : Aside0 ((cfR x y == 0) = decide (x = y)) := ⟨by
    by_cases h : x = y
    · rw [decide_eq_true h, h, cfR_tc.refl]; rfl
    · rw [decide_eq_false h]
      have : cfR x y ≠ 0 := fun e => h (cfR_tc.same x y e)
      simpa using this⟩
  rw [← HE.out]
  clear HE hx hy lx ly
  generalize cfR x y = r at HC ⊢
  generalize x.length = n at HC ⊢
  generalize y.length = m at HC ⊢
  go_enter Tryz.func146, Tryz.ntmps146
  go_wp2_with (go_at_fn 63; refine HC.out.mono ?_; rintro e w' ⟨rfl, hb⟩)
  go_ret
  exact ⟨rfl, hb⟩
section
open Go.Sort
theorem order_at (x y : List V) (cx cy : Value) (W : World) (b : Nat) (o : Nat → Prop) (hx : (Kd.slice 61 k61).M W b o x [cx]) (hy : (Kd.slice 61 k61).M W b o y [cy]) (lx : x.length ≤ 4611686018427387904) (ly : y.length ≤ 4611686018427387904) :
    Calls Tryz.prog 63 (#[cx, cy] ++ #[]) W fun e w' => e = .returned (.int .i64 (cfR x y)) ∧ BelowD W.heap.size W w' := by
  obtain ⟨A0, c0, rfl, _, hC0⟩ := M_row_reads hx
  obtain ⟨A1, c1, rfl, _, hC1⟩ := M_row_reads hy
  exact rows_Order.grows A0 A1 c0 c1 x y (cfR x y) W hC0 hC1 (by unfold rows_Order.f; rw [if_pos ⟨lx, ly⟩])
theorem sortR_can (v : Value) (xs : List (List V)) (w : World) (base : Nat) (ok : Nat → Prop) (h : Kd.S (Kd.slice 61 k61) 40 w base ok v xs) (hl : okR xs = true) :
    Calls Tryz.prog 60 #[v, .func (.func 63) #[] #[]] w fun e' w' => e' = .returned (.tuple #[]) ∧ Kd.S (Kd.slice 61 k61) 40 w' base ok v (canR xs) ∧ w.grownBy w' v.ownBlock ∧ (∀ (B : Nat) (w0 : World), B ≤ base → Below B w0 w → B ≤ w.heap.size → Below B w0 w') := by
  have hl' := okR_spec hl
  have eg : ∀ args w, (callFunc 63 args).run Tryz.prog w = .ok (.enter 63 args) w := enters_of Tryz.func63 (by kernel_rfl) rfl
  have hc := sortS Tryz.sortR (Kd.slice 61 k61) rfl 40 cfR cfR_tc 63 #[] eg v xs w base ok h (by have := hl'.1; omega) (fun x y cx cy W hx hy hMx hMy _ => order_at x y cx cy W _ _ hMx hMy (by have := hl'.2 x hx; omega) (by have := hl'.2 y hy; omega))
  change Calls Tryz.prog 60 _ _ _ at hc
  exact hc
theorem compRany.calls (g1 : Nat) (lb : Array Value) (eg : ∀ args w, (callFunc g1 args).run Tryz.prog w = .ok (.enter g1 args) w) (v : Value) (xs : List (List V)) (w : World) (base : Nat) (ok : Nat → Prop) (h : Kd.S (Kd.slice 61 k61) 40 w base ok v xs) (hlen : xs.length < 4611686018427387904)
    (hp : ∀ (x y : List V) (cx cy : Value) (W : World), x ∈ xs → y ∈ xs → (∃ A c, cx = .slice A x.length c ∧ Kd.C k61 W A x.length x) → (∃ A c, cy = .slice A y.length c ∧ Kd.C k61 W A y.length y) → (∀ k, k < w.heap.size → some k ≠ v.ownBlock → W.heap[k]? = w.heap[k]?) →
      Calls Tryz.prog g1 (#[cx, cy] ++ lb) W fun e w' => e = .returned (.bool (decide (x = y))) ∧ BelowD W.heap.size W w') :
    Calls Tryz.prog 145 #[v, .func (.func g1) #[] lb] w fun e w' => ∃ v' : Value, e = .returned v' ∧ Kd.S (Kd.slice 61 k61) 40 w' base ok v' (onceOf xs) ∧ (∀ (B : Nat) (w0 : World), B ≤ base → Below B w0 w → B ≤ w.heap.size → Below B w0 w') := by
  have h' := h
  obtain ⟨fo, hR⟩ := h
  have hl2 := List.length_zipIdx (l := xs) (i := 0)
  obtain ⟨inner, ho⟩ := Kd.R_own hR
  rcases ho.2 with ⟨rfl, h0⟩ | ⟨g, cap, cur, rfl, hb, hh, _⟩
  · have hx : xs = [] := List.length_eq_zero_iff.1 (by omega)
    subst hx
    refine (compR_none.calls (.func (.func g1) #[] lb) w).mono ?_
    rintro e w' ⟨rfl, rfl⟩
    exact ⟨_, rfl, h', fun _ _ _ hB _ => hB⟩
  · have mem1 : ∀ p ∈ xs.zipIdx, p.1 ∈ xs := fun p hp => List.fst_mem_of_mem_zipIdx hp
    have rd : ∀ (W : World) (b : Nat) (o : Nat → Prop) (x : List V × Nat) (c : Value), (Kd.tag fo (Kd.slice 61 k61)).M W b o x [c] → ∃ A cc, c = .slice A x.1.length cc ∧ Kd.C k61 W A x.1.length x.1 := fun W b o x c hM => by
      obtain ⟨A, cc, e1, _, e2⟩ := M_row_reads (e := 61) (x := x.1) hM
      exact ⟨A, cc, e1, e2⟩
    refine (compR.calls (Kd.tag fo (Kd.slice 61 k61)) rfl Prod.fst (fun W b o x c hM => by
      obtain ⟨A, cc, e1, _⟩ := rd W b o x c hM
      exact ⟨A, _, cc, e1⟩) g1 lb eg g 0 cap xs.zipIdx w base ok rfl hR (by rw [hl2]; exact hlen) (fun x y cx cy W hx hy hMx hMy hk => hp x.1 y.1 cx cy W (mem1 x hx) (mem1 y hy) (rd _ _ _ _ _ hMx) (rd _ _ _ _ _ hMy) fun k h1 h2 => hk k h1 (fun e => h2 (by rw [e]; rfl)))).mono ?_
    rintro e w' ⟨c', rfl, h1, h2⟩
    have hm : (onceU Prod.fst xs.zipIdx xs.zipIdx.length).map Prod.fst = onceOf xs := by
      rw [onceU_map Prod.fst xs.zipIdx _ (Nat.le_refl _), List.zipIdx_map_fst, hl2]; rfl
    have hS := S_of_tags h1 (by
      have h5 := (onceU_sub Prod.fst xs.zipIdx xs.zipIdx.length).map Prod.snd
      rw [List.take_length, List.zipIdx_map_snd] at h5
      exact (List.nodup_range' ..).sublist h5)
    rw [hm] at hS
    exact ⟨_, rfl, hS, h2⟩
theorem box_at {w w2 : World} {f : Value} {t B : Nat} (hb : Below B (w.alloc (.cells #[f] t (0, 0))) w2) (hB : w.heap.size < B) : w2.heap[w.heap.size]? = some (.cells #[f] t (0, 0)) := (hb.block _ hB).trans (blk_new w _)
set_option maxHeartbeats 1000000 in
theorem onceFR.calls (v : Value) (xs : List (List V)) (w : World) (base : Nat) (h : Kd.S (Kd.slice 61 k61) 40 w base (fun _ => True) v xs) (hbase : base ≤ w.heap.size) (hl : okR xs = true) :
    Calls Tryz.prog 113 #[v, .func (.func 63) #[] #[]] w fun e w' => ∃ v0_ : Value, e = .returned v0_ ∧ Kd.S (Kd.slice 61 k61) 40 w' base (fun _ => True) v0_ (oneR xs) ∧ (∀ (B : Nat) (w0 : World), B ≤ base → Below B w0 w → B ≤ w.heap.size → Below B w0 w') := by
  have eg : ∀ args w, (callFunc 146 args).run Tryz.prog w = .ok (.enter 146 args) w := enters_of Tryz.func146 (by kernel_rfl) rfl
  have hl' := okR_spec hl
  obtain ⟨A0, c0, rfl⟩ := Kd.S_slice h
  have HC := aM (cloneR.calls (Kd.slice 61 k61) rfl (.slice A0 xs.length c0) xs (w.alloc (.cells #[.func (.func 63) #[] #[]] 46 (0, 0))) base _ (Kd.S_alloc h _) (by rw [World.size_alloc]; omega) (by have := hl'.1; omega))
  have HL := aM hl
  have HBS := aM hbase
  have HEG := aM eg
  clear h hl hl' hbase eg
  generalize hn : xs.length = n at HC ⊢
  have HN := aM hn
  clear hn
  go_enter Tryz.func113, Tryz.ntmps113
  go_wp2_with (first
    | (go_at_call 144; refine HC.out.mono ?_; rintro e w2 ⟨v2, rfl, hv, hb2⟩; have hbx := box_at hb2 (by rw [World.size_alloc]; omega); have hbc := blk_cell hbx 0; have HBX := aM hbx; have HB2 := aM (below_then (below_alloc (Below.refl _ _) _) (by rw [World.size_alloc]; omega) hb2); have HV := aM hv; clear hv hb2 hbx)
    | (go_at_call 60; refine (sortR_can _ _ _ _ _ HV.out HL.out).mono ?_; rintro e w3 ⟨rfl, hv3, hg3, hb3⟩; have HV3 := aM hv3; have HB3 := aM hb3; have HG3 := aM hg3.size; have HX3 := aM (hg3.block w.heap.size (blk_lt HBX.out) (Kd.S_ne HV.out HBX.out (by decide)) |>.trans HBX.out); clear hv3 hb3 hg3 hbc)
    | (go_at_call 145; refine (compRany.calls 146 #[.pointer (some ⟨w.heap.size, 0, none⟩)] HEG.out _ _ _ _ _ HV3.out (by have := (okR_spec HL.out).1; have h9 := sortBy_length cfR xs; unfold canR; omega) (fun x y cx cy W hx hy hMx hMy hk => by
        obtain ⟨A0, c0, rfl, hC0⟩ := hMx
        obtain ⟨A1, c1, rfl, hC1⟩ := hMy
        have lx := (okR_spec HL.out).2 x (sortBy_mem.1 hx)
        have ly := (okR_spec HL.out).2 y (sortBy_mem.1 hy)
        have hcell : W.heap[w.heap.size]? = _ := (hk w.heap.size (blk_lt HX3.out) (Kd.S_ne HV3.out HX3.out (by decide))).trans HX3.out
        exact onceEqR.calls w.heap.size x y A0 A1 c0 c1 W (blk_cell hcell 0) hC0 hC1 (by omega) (by omega))).mono ?_; rintro e w5 ⟨v5, rfl, hv5, hb5⟩; have HV5 := aM hv5; have HB5 := aM hb5; clear hv5 hb5))
  go_ret
  refine ⟨_, rfl, HV5.out, fun B w0 hB hbl hs => ?_⟩
  have h2 : Below B w0 w2 := below_then hbl hs HB2.out
  have s2 : B ≤ w2.heap.size := Nat.le_trans hs HB2.out.size
  have h3 := HB3.out B w0 hB h2 s2
  exact HB5.out B w0 hB h3 (Nat.le_trans s2 HG3.out)
end
def rows_Once.f (l0 : List (List V)) : Option (List (List V)) := if okR l0 = true then some (oneR l0) else none
set_option maxHeartbeats 1000000 in
theorem rows_Once.calls (A0 : Option Addr) (c0 : Nat) (l0 : List (List V)) (r : List (List V)) (w : World) (hr0 : Kd.C (Kd.slice 61 k61) w A0 l0.length l0) (hc0 : l0.length ≤ c0) (h : rows_Once.f l0 = some r) :
    Calls Tryz.prog 74 #[.slice A0 l0.length c0] w fun e w' => ∃ v0_ : Value, e = .returned (v0_) ∧ Kd.S (Kd.slice 61 k61) 40 w' w.heap.size (fun _ => True) v0_ r ∧ Below w.heap.size w w' := by
  unfold rows_Once.f at h
  by_cases hs : okR l0 = true
  case neg => rw [if_neg hs] at h; cases h
  rw [if_pos hs] at h
  obtain rfl := Option.some.inj h
  have HC := aM (rows_Copy_s.calls A0 c0 l0 l0 w hr0 hc0 (by unfold rows_Copy_s.f; rw [if_pos hs]))
  have HS := aM hs
  clear hr0 hc0 hs h
  generalize l0.length = n at HC ⊢
  go_enter Tryz.func74, Tryz.ntmps74
  go_wp2_with (first
    | (go_at_call 59; refine HC.out.mono ?_; rintro e w1 ⟨v1, rfl, hv1, hb1⟩; have HV1 := aM hv1; have HB1 := aM hb1; clear hv1 hb1)
    | (go_at_call 113; refine (onceFR.calls _ _ _ _ HV1.out HB1.out.size HS.out).mono ?_; rintro e w2 ⟨v2, rfl, hv2, hb2⟩; have HV2 := aM hv2; have HB2 := aM (hb2 w.heap.size w (Nat.le_refl _) HB1.out HB1.out.size); clear hv2 hb2))
  go_ret
  exact ⟨_, rfl, HV2.out, HB2.out⟩
section
theorem heapV : Kd.Heap k61 := Kd.heap_iso _ (Kd.heap_pair (Kd.heap_int _) (Kd.heap_pair (Kd.heap_int _) Kd.heap_string))
theorem takenAll.calls (A0 : Option Addr) (n c0 : Nat) (w : World) : Calls Tryz.prog 91 #[.slice A0 n c0, .bool true] w fun e w' => e = .returned (.slice A0 n c0) ∧ w' = w := by
  go_enter Tryz.func91, Tryz.ntmps91
  go_wp2
  go_ret
  exact ⟨rfl, rfl⟩
theorem takenOnce.calls (A0 : Option Addr) (c0 : Nat) (l0 : List (List V)) (w : World) (hr0 : Kd.C (Kd.slice 61 k61) w A0 l0.length l0) (hc0 : l0.length ≤ c0) (hok : okR l0 = true) :
    Calls Tryz.prog 91 #[.slice A0 l0.length c0, .bool false] w fun e w' => ∃ v0_ : Value, e = .returned v0_ ∧ Kd.S (Kd.slice 61 k61) 40 w' w.heap.size (fun _ => True) v0_ (oneR l0) ∧ Below w.heap.size w w' := by
  have HC := aM (rows_Once.calls A0 c0 l0 (oneR l0) w hr0 hc0 (by unfold rows_Once.f; rw [if_pos hok]))
  clear hr0 hc0 hok
  generalize l0.length = n at HC ⊢
  go_enter Tryz.func91, Tryz.ntmps91
  go_wp2_with (go_at_call 74; refine HC.out.mono ?_; rintro e w1 ⟨v1, rfl, hv1, hb1⟩; have HV1 := aM hv1; have HB1 := aM hb1; clear hv1 hb1)
  go_ret
  exact ⟨_, rfl, HV1.out, HB1.out⟩
theorem taken.calls (A0 : Option Addr) (c0 : Nat) (l0 : List (List V)) (all : Bool) (w w1 : World) (hr0 : Kd.C (Kd.slice 61 k61) w A0 l0.length l0) (hc0 : l0.length ≤ c0) (hok : okR l0 = true) (hb : Below w.heap.size w w1) (hlt : w.heap.size < w1.heap.size) :
    Calls Tryz.prog 91 #[.slice A0 l0.length c0, .bool all] w1 fun e w' => ∃ A c, e = .returned (.slice A (if all = true then l0 else oneR l0).length c) ∧ Kd.F (Kd.slice 61 k61) w' (fun k => k ≠ w.heap.size) A (if all = true then l0 else oneR l0).length (if all = true then l0 else oneR l0) ∧ Below w1.heap.size w1 w' := by
  cases all with
  | true =>
    refine (takenAll.calls A0 l0.length c0 w1).mono ?_
    rintro e w' ⟨rfl, rfl⟩
    refine ⟨A0, c0, rfl, ?_, Below.refl _ _⟩
    exact Kd.F_mono (Kd.F_below (Kd.C_F (Kd.heap_slice _ heapV) hr0) hb) fun k hk => Nat.ne_of_lt hk
  | false =>
    refine (takenOnce.calls A0 c0 l0 w1 (Kd.C_below hr0 hb) hc0 hok).mono ?_
    rintro e w' ⟨v, rfl, hv, hb'⟩
    obtain ⟨A, c, rfl⟩ := Kd.S_slice hv
    refine ⟨A, c, rfl, ?_, hb'⟩
    exact Kd.F_mono (Kd.S_F (Kd.S_bound hv)) fun k hk => by have := hk.2.1; omega
end
section
variable {ops : Array Oper} {rest : List Oper} {o : Oper} {a : Act} {Q : Exit → Act → World → Prop}
theorem append_row {W : World} {base : Nat} (hgd : o.guard = none) (s x : Operand) (ho : o.op = .call { callee := .builtin .append, args := #[s, x], argTypes := #[22, 22] })
    (v : Value) (A : Option Addr) (n c : Nat) (out : List (List V)) (r : List V) (hs : a.eval s = v) (hx : a.eval x = .slice (some ⟨W.heap.size, 0, none⟩) 1 1)
    (HO : Kd.S (Kd.slice 61 k61) 40 W base (fun k => True ∧ some k ≠ (Value.slice A n c).ownBlock) v out) (HU : Kd.R k61 61 W base (fun _ => True) (.slice A n c) r) (hbase : base ≤ W.heap.size) (hl : out.length ≤ 5000000)
    (h : ∀ v1 w1, Kd.S (Kd.slice 61 k61) 40 w1 base (fun _ => True) v1 (out ++ [r]) → Below base W w1 → W.grownBy w1 v.ownBlock → wpList Tryz.prog ops Q rest (a.put o.dst v1) w1) :
    wpList Tryz.prog ops Q (o :: rest) a (W.alloc (.cells #[.slice A n c] 40)) := by
  refine Kd.S_append (Kd.slice 61 k61) (w0 := W) base hgd s x 22 40 (.slice none 0 0) 24 ho Tryz.underlying22 info40 rfl (by decide) (by omega) v out r [.slice A n c] (fun _ => True) (fun k => some k = (Value.slice A n c).ownBlock) hs hx ?_ ?_ (fun _ _ => trivial) ?_ (Below.refl _ _) hbase (by omega) (fun v1 w1 h1 h2 h3 _ => h v1 w1 h1 h2 h3)
  · exact Kd.M_row (Kd.R_tight rfl HU)
  · intro k hk
    refine ⟨trivial, fun e => ?_⟩
    obtain ⟨c1, h1⟩ := Kd.S_typed HO k e.symm
    obtain ⟨c2, h2⟩ := Kd.R_typed HU k hk.symm
    rw [h1] at h2
    injection h2 with h2
    injection h2 with _ h2
    exact absurd h2 (by decide)
  · exact Kd.S_mono HO fun k hk => ⟨trivial, fun e => hk.2 e⟩
theorem S_off {α : Type} {d : Kd α} {e base b : Nat} {w w1 : World} {ok : Nat → Prop} {v : Value} {xs : List α} (h : Kd.S d e w base ok v xs) (hg : w.grownBy w1 (some b)) (hb : b < base) : Kd.S d e w1 base ok v xs :=
  Kd.S_mono (Kd.S_step (Kd.S_bound h) fun k hk hlt => hg.block k hlt fun q => by injection q with q; have := hk.2.1; omega) fun _ hk => hk.1
def KeptB (b : Nat) (w w1 : World) : Prop := w.heap.size ≤ w1.heap.size ∧ ∀ k, k < w.heap.size → k ≠ b → w1.heap[k]? = w.heap[k]?
theorem KeptB.refl (b : Nat) (w : World) : KeptB b w w := ⟨Nat.le_refl _, fun _ _ _ => rfl⟩
theorem KeptB.below {b : Nat} {w w1 w2 : World} (h : KeptB b w w1) (k : Below w.heap.size w1 w2) : KeptB b w w2 := ⟨Nat.le_trans h.1 k.size, fun i hi hn => (k.block i hi).trans (h.2 i hi hn)⟩
theorem KeptB.off {b : Nat} {w w1 w2 : World} (h : KeptB b w w1) (k : w1.grownBy w2 (some b)) : KeptB b w w2 := ⟨Nat.le_trans h.1 k.size, fun i hi hn => (k.block i (Nat.lt_of_lt_of_le hi h.1) (fun q => hn (by injection q))).trans (h.2 i hi hn)⟩
set_option maxRecDepth 100000 in
set_option maxHeartbeats 4000000 in
theorem inFR.calls (A0 A1 : Option Addr) (c0 c1 : Nat) (l0 l1 : List (List V)) (all : Bool) (w : World) (hL_ : Laid w) (hr0 : Kd.C (Kd.slice 61 k61) w A0 l0.length l0) (hc0 : l0.length ≤ c0) (hr1 : Kd.C (Kd.slice 61 k61) w A1 l1.length l1) (hok0 : okRR l0 = true) (hok1 : okRR l1 = true) :
    Calls Tryz.prog 53 #[.slice A0 l0.length c0, .slice A1 l1.length c1, .bool all] w fun e w' => ∃ v0_ : Value, e = .returned v0_ ∧ Kd.S (Kd.slice 61 k61) 40 w' w.heap.size (fun _ => True) v0_ (canR (takeIn (cnt l1) (if all = true then l0 else oneR l0))) ∧ Below w.heap.size w w' := by
  have HLD := aM hL_
  have HCN := aM (countsR.calls A1 c1 l1 w hL_ hr1 hok1)
  have HTK := aM (fun w1 hb hlt => taken.calls A0 c0 l0 all w w1 hr0 hc0 (okRR_okR hok0) hb hlt)
  obtain ⟨t, ht⟩ : ∃ t, t = if all = true then l0 else oneR l0 := ⟨_, rfl⟩
  have htok : (t.length ≤ 1000000 ∧ ∀ r ∈ t, okRow r = true) := by
    have h8 := okRR_spec hok0
    rw [ht]
    cases all with
    | true => exact h8
    | false =>
      have h9 := oneR_spec l0
      refine ⟨?_, fun r hr => h8.2 r ((h9.2 r).1 hr)⟩
      have := oneR_len l0
      show (oneR l0).length ≤ 1000000
      omega
  have HE : Aside0 (inN (cntN l1) t = takeIn (cnt l1) t) := ⟨inN_eq t _ _ (fun x hx => (okRow_spec (htok.2 x hx)).2) fun x hx => cntN_eq (okRR_vals hok1) hx⟩
  have HIR : Aside0 (InR (cntN l1)) := ⟨fun s => by have := cntN_le l1 s; have := (okRR_spec hok1).1; omega⟩
  rw [← ht] at HTK ⊢
  rw [← HE.out]
  have HT := aM htok
  have HN1 : Aside0 (l1.length ≤ 1000000) := ⟨(okRR_spec hok1).1⟩
  clear hL_ hr0 hr1 hc0 hok0 hok1 ht htok HE
  generalize l0.length = n0 at HTK ⊢
  generalize l1.length = n1 at HCN HN1 ⊢
  obtain ⟨n, hn⟩ : ∃ n, n = t.length := ⟨_, rfl⟩
  rw [← hn] at HTK
  have hle : n ≤ 1000000 := by have := HT.out.1; omega
  have HN := aM hn
  clear hn
  go_enter Tryz.func53, Tryz.ntmps53
  go_wp2_with (first
    | (go_at_call 90; refine HCN.out.mono ?_; rintro e w1 ⟨rfl, hm1, hb1⟩; have HM1 := aM hm1; have HB1 := aM hb1; clear hm1 hb1)
    | (go_at_call 91; refine (HTK.out _ HB1.out (mapIs_lt HM1.out)).mono ?_; rintro e w2 ⟨At, ct, rfl, hf2, hb2⟩; have HF2 := aM hf2; have HM2 := aM (mapIs_below HM1.out hb2); have HB2 := aM (below_step HB1.out hb2); clear hf2 hb2))
  have HLT : Aside0 (w.heap.size < w2.heap.size) := ⟨mapIs_lt HM2.out⟩
  clear HM1 HB1 HTK HCN
  go_loopg [8, 10, 11, 18] n (fun gg s8 _ _ s18 wr => ∃ (kk : Nat) (out : List (List V)) (left : List UInt8 → Int), kk ≤ n ∧ n - kk ≤ gg ∧ s18 = .int .i64 kk ∧ Aside0 (Below w.heap.size w wr) ∧ Aside0 (KeptB w.heap.size w2 wr) ∧ Aside0 (MapIs wr w.heap.size (n1 + kk) left) ∧ Aside0 (InR left) ∧ Aside0 (Kd.S (Kd.slice 61 k61) 40 wr w2.heap.size (fun _ => True) s8 out) ∧ Aside0 (inN (cntN l1) t = out ++ inN left (t.drop kk)))
  case atStart => exact ⟨0, [], cntN l1, Nat.zero_le _, by omega, rfl, HB2, ⟨KeptB.refl _ _⟩, HM2, HIR, ⟨Kd.S_nil _ _ _ _ _⟩, ⟨rfl⟩⟩
  case round =>
    clear HB2 HM2 HIR
    obtain ⟨kk, out, left, hkk, hg, rfl, HB, HK, HM, HIR, HO, HI⟩ := hrel
    obtain ⟨Ao, co, eo⟩ := Kd.S_slice HO.out
    subst eo
    have HOL : Aside0 (out.length ≤ 1000000) := ⟨by
      have h8 := inN_len t (cntN l1)
      rw [HI.out, List.length_append] at h8
      have := HT.out.1
      omega⟩
    obtain ⟨m, hm⟩ : ∃ m, m = out.length := ⟨_, rfl⟩
    by_cases hlt : kk < n
    · have hltz : (kk : Int) < (n : Int) := by omega
      have hlt' : kk < t.length := by have := HN.out; omega
      have hF := Kd.F_step HF2.out fun k hk hl => HK.out.2 k hl hk
      obtain ⟨ad, cc, e1, _, hFK, hcc, _⟩ := Kd.F_get hF [] (kk : Int) (by omega) (by omega)
      cases e1
      obtain ⟨Ar, cr, rfl, hle1, hF1⟩ := Kd.FK_slice_open hFK
      have eg : t.getD (kk : Int).toNat [] = t[kk] := by rw [Int.toNat_natCast, List.getD_eq_getElem?_getD, List.getElem?_eq_getElem hlt']; rfl
      have hx0 := hcc 0 _ rfl
      rw [show (kk : Int).toNat * (Kd.slice 61 k61).sz + 0 = kk from by rw [Int.toNat_natCast]; exact Nat.mul_one kk] at hx0
      rw [eg] at hx0 hle1 hF1
      have hC1 := Kd.F_now hF1
      have hrow := HT.out.2 t[kk] (List.getElem_mem hlt')
      have htd : t.drop kk = t[kk] :: t.drop (kk + 1) := List.drop_eq_getElem_cons hlt'
      have hcall := rows_Name.calls Ar cr t[kk] (ofL (nameL t[kk])) wr (HLD.out.below HB.out) hC1 hle1 (by unfold rows_Name.f; rw [if_pos hrow])
      have hns : (ofL (nameL t[kk])).size ≤ 403000 := by
        rw [ofL_size]
        have h8 := okRow_spec hrow
        have := nameL_len _ h8.2
        have := Nat.mul_le_mul_right 403 h8.1
        omega
      have hrl : t[kk].length ≤ 1000 := (okRow_spec hrow).1
      clear hcc hFK hF eg
      generalize t[kk] = y at hx0 hrow htd hcall hns hC1 hle1 hrl hF1
      obtain ⟨c, hc⟩ : ∃ c, c = left (nameL y) := ⟨_, rfl⟩
      have hcb := HIR.out (nameL y)
      rw [← hc] at hcb
      have q0 : 0 ≤ c := hcb.1
      have q1 : c ≤ 1000000 := hcb.2
      have HC := aM hcall
      have HCE := aM hc
      have HNS := aM hns
      have HSE : Aside0 ((ofL (nameL y)).data.toList = nameL y) := ⟨rfl⟩
      have HTD := aM htd
      have HF1 := aM hF1
      have HRL := aM hrl
      clear hcall htd hc hns hcb hrow hlt' hC1 hle1 hrl hF1
      generalize ofL (nameL y) = s at HC HNS HSE
      generalize hyl : y.length = ylen at hx0 HC HF1
      have HYL := aM hyl
      clear hyl
      have HML := aM hm
      rw [← hm] at HO ⊢
      clear hm
      by_cases hpos : 0 < c
      · go_wp2_with (first
          | (go_at_call 92; refine HC.out.mono ?_; rintro e w3 ⟨rfl, hb3⟩; have HB3 := aM (below_step HB.out hb3); have HM3 := aM (mapIs_below HM.out hb3); have HD3 := aM hb3; clear hb3)
          | (at_lookup; refine mapIs_lookup rfl _ _ rfl _ _ _ rfl HM3.out s (by have := HNS.out; simp only [maxLen]; omega) rfl c (by rw [HSE.out]; exact HCE.out.symm) ?_)
          | (at_mapUpdate; refine mapIs_update rfl _ _ _ rfl _ _ _ rfl HM3.out (by have := HN1.out; simp only [maxLen]; omega) s (by have := HNS.out; simp only [maxLen]; omega) rfl (c - 1) rfl (wfI (by omega) (by omega)) ?_; intro w4 hm4 hg4; have HM4 := aM hm4; have HG4 := aM hg4; clear hm4 hg4))
        have HB4 := aM (HB3.out.grown HG4.out HB3.out.size (by intro k hk; injection hk with hk; omega))
        have HK3 := aM (HK.out.below (HD3.out.mono HK.out.1))
        have HK4 := aM (HK3.out.off HG4.out)
        have HO4 := aM (S_off (Kd.S_below HO.out HD3.out) HG4.out HLT.out)
        have HF4 : Aside0 (Kd.F k61 w4 (fun k => k ≠ w.heap.size) Ar y.length y) := ⟨by
          rw [HYL.out]
          exact Kd.F_step (Kd.F_below HF1.out HD3.out) fun k hk hl => HG4.out.block k hl fun q => hk (by injection q)⟩
        go_wp2_with (first
          | (go_at_call 93; rw [← HYL.out]; refine (cloneV.calls Ar cr y _ (Kd.F_now HF4.out) (by have := HRL.out; omega)).mono ?_; rintro e w5 ⟨v5, rfl, hv5, hb5⟩; obtain ⟨A5, c5, rfl⟩ := Kd.R_slice hv5; have HO5 := aM (Kd.S_elder' HO4.out (Kd.R_base hv5) hb5); have HU5 := aM (Kd.R_lower hv5 HK4.out.1); have HK5 := aM (HK4.out.below (hb5.mono HK4.out.1)); have HM5 := aM (mapIs_below HM4.out hb5); have HB5 := aM (below_step HB4.out hb5); clear hv5 hb5)
          | (at_builtin; refine append_row rfl _ _ rfl _ _ _ _ out y rfl rfl HO5.out HU5.out HK5.out.1 (by have := HOL.out; omega) ?_; intro v6 w6 ho6 hb6 hg6; have HO6 := aM ho6; have HK6 := aM (HK5.out.below hb6); have HM6 := aM (mapIs_same HM5.out (hb6.block _ HLT.out)); have HB6 := aM (HB5.out.trans (hb6.mono (Nat.le_of_lt HLT.out))); clear ho6 hb6 hg6))
        go_roundg (n - (kk + 1))
        case measure => omega
        case rel =>
          refine ⟨kk + 1, out ++ [y], putN left s.data.toList (c - 1), by omega, by omega, by go_num, HB6, HK6, HM6, ⟨HIR.out.put (by omega) (by omega)⟩, HO6, ⟨?_⟩⟩
          rw [HI.out, HTD.out, inN, if_pos (by rw [← HCE.out]; exact hpos), List.append_assoc, HSE.out, ← HCE.out]
          rfl
      · go_wp2_with (first
          | (go_at_call 92; refine HC.out.mono ?_; rintro e w3 ⟨rfl, hb3⟩; have HB3 := aM (below_step HB.out hb3); have HM3 := aM (mapIs_below HM.out hb3); have HD3 := aM hb3; clear hb3)
          | (at_lookup; refine mapIs_lookup rfl _ _ rfl _ _ _ rfl HM3.out s (by have := HNS.out; simp only [maxLen]; omega) rfl c (by rw [HSE.out]; exact HCE.out.symm) ?_))
        go_roundg (n - (kk + 1))
        case measure => omega
        case rel =>
          refine ⟨kk + 1, out, left, by omega, by omega, by go_num, HB3, ⟨HK.out.below (HD3.out.mono HK.out.1)⟩, ⟨by have h8 := HM3.out; exact mapIs_mono h8 (by omega)⟩, HIR, ⟨by have h8 := Kd.S_below HO.out HD3.out; exact h8⟩, ⟨?_⟩⟩
          rw [HI.out, HTD.out, inN, if_neg (by rw [← HCE.out]; omega)]
    · have hltz : decide (kk < n) = false := by simpa using hlt
      have HOE : Aside0 (inN (cntN l1) t = out) := ⟨by
        rw [HI.out, List.drop_of_length_le (by have := HN.out; omega)]
        simp [inN]⟩
      have HOK : Aside0 (okR out = true) := ⟨okR_mk (by have := HOL.out; omega) fun r hr => by
        rw [← HOE.out] at hr
        exact (okRow_spec (HT.out.2 r (inN_mem t _ r hr))).1⟩
      rw [← hm] at HO ⊢
      clear hlt hm
      go_wp2_with (go_at_call 60; refine (sortR_can _ _ _ _ _ HO.out HOK.out).mono ?_; rintro e w3 ⟨rfl, hv3, _, hb3⟩; have HV3 := aM hv3; have HB3 := aM (hb3 w.heap.size w (Nat.le_of_lt HLT.out) HB.out HB.out.size); clear hv3 hb3)
      go_ret
      refine ⟨_, rfl, ?_, HB3.out⟩
      rw [HOE.out]
      exact Kd.S_lower HV3.out (Nat.le_of_lt HLT.out)
end
section
theorem C_lit {α : Type} {d : Kd α} (hsz : d.sz = 1) {W : World} {g e : Nat} {cs : Array Value} {xs : List α} (hb : W.heap[g]? = some (.cells cs e (0, 0))) (h : Reps (d.K W) 1 xs cs.toList) (hl : xs.length ≤ 1000) : Kd.C d W (some ⟨g, 0, none⟩) xs.length xs :=
  ⟨rfl, by omega, fun _ => ⟨_, rfl, fun j p hj => by
    have hjl := (List.getElem?_eq_some_iff.1 hj).1
    have h1 := h.1
    have h2 := h.2 j p hj
    refine ⟨(cs.toList.drop (j * 1)).take 1, ?_, h2, fun i u hu => ?_⟩
    · rw [List.length_take, List.length_drop, hsz]; omega
    · rw [hsz, add_at, Nat.zero_add, blk_cell hb]
      rw [List.getElem?_take] at hu
      by_cases hi : i < 1
      · rw [if_pos hi, List.getElem?_drop, Array.getElem?_toList] at hu
        exact hu
      · rw [if_neg hi] at hu; cases hu⟩⟩
theorem K_row {W : World} {A : Option Addr} {c : Nat} {x : List (List V)} (h : Kd.C (Kd.slice 61 k61) W A x.length x) (hc : x.length ≤ c) : (Kd.slice 40 (Kd.slice 61 k61)).K W x [.slice A x.length c] := ⟨A, c, rfl, hc, h⟩
theorem small_two (A0 A1 : Option Addr) (c0 c1 : Nat) (l0 l1 : List (List V)) (w W : World) (hr0 : Kd.C (Kd.slice 61 k61) w A0 l0.length l0) (hc0 : l0.length ≤ c0) (hr1 : Kd.C (Kd.slice 61 k61) w A1 l1.length l1) (hc1 : l1.length ≤ c1) (hb : Below w.heap.size w W) :
    Calls Tryz.prog 52 #[.slice (some ⟨W.heap.size, 0, none⟩) 2 2] (W.alloc (.cells #[.slice A0 l0.length c0, .slice A1 l1.length c1] 22)) fun e w' => e = .returned (.int .i64 (smallE [l0, l1])) ∧ Below w.heap.size w w' := by
  have hb2 : Below w.heap.size w (W.alloc (.cells #[.slice A0 l0.length c0, .slice A1 l1.length c1] 22)) := below_alloc hb _
  have hC : Kd.C (Kd.slice 40 (Kd.slice 61 k61)) (W.alloc (.cells #[.slice A0 l0.length c0, .slice A1 l1.length c1] 22)) (some ⟨W.heap.size, 0, none⟩) 2 [l0, l1] :=
    C_lit rfl (blk_new W _) (Reps.one (K_row (Kd.C_below hr0 hb2) hc0) (Reps.one (K_row (Kd.C_below hr1 hb2) hc1) (Reps.none _ _))) (show 2 ≤ 1000 by decide)
  exact (rows_small.calls (some ⟨W.heap.size, 0, none⟩) 2 [l0, l1] _ _ hC (Nat.le_refl _) rfl).mono fun _ _ ⟨he, hb3⟩ => ⟨he, below_step hb2 hb3⟩
theorem small_one (A0 : Option Addr) (c0 : Nat) (l0 : List (List V)) (w W : World) (hr0 : Kd.C (Kd.slice 61 k61) w A0 l0.length l0) (hc0 : l0.length ≤ c0) (hb : Below w.heap.size w W) :
    Calls Tryz.prog 52 #[.slice (some ⟨W.heap.size, 0, none⟩) 1 1] (W.alloc (.cells #[.slice A0 l0.length c0] 22)) fun e w' => e = .returned (.int .i64 (smallE [l0])) ∧ Below w.heap.size w w' := by
  have hb2 : Below w.heap.size w (W.alloc (.cells #[.slice A0 l0.length c0] 22)) := below_alloc hb _
  have hC : Kd.C (Kd.slice 40 (Kd.slice 61 k61)) (W.alloc (.cells #[.slice A0 l0.length c0] 22)) (some ⟨W.heap.size, 0, none⟩) 1 [l0] :=
    C_lit rfl (blk_new W _) (Reps.one (K_row (Kd.C_below hr0 hb2) hc0) (Reps.none _ _)) (show 1 ≤ 1000 by decide)
  exact (rows_small.calls (some ⟨W.heap.size, 0, none⟩) 1 [l0] _ _ hC (Nat.le_refl _) rfl).mono fun _ _ ⟨he, hb3⟩ => ⟨he, below_step hb2 hb3⟩
end
def rows_Both.f (l0 l1 : List (List V)) (all : Bool) : Option (List (List V) × Int) := if smallE [l0, l1] = 0 then (if okRR l0 = true ∧ okRR l1 = true then some (canR (takeIn (cnt l1) (if all = true then l0 else oneR l0)), 0) else none) else some ([], smallE [l0, l1])
set_option maxHeartbeats 2000000 in
theorem rows_Both.calls (A0 : Option Addr) (c0 : Nat) (l0 : List (List V)) (A1 : Option Addr) (c1 : Nat) (l1 : List (List V)) (all : Bool) (r1 : List (List V)) (r2 : Int) (w : World) (hr0 : Kd.C (Kd.slice 61 k61) w A0 l0.length l0) (hc0 : l0.length ≤ c0) (hr1 : Kd.C (Kd.slice 61 k61) w A1 l1.length l1) (hc1 : l1.length ≤ c1) (hL_ : Laid w) (h : rows_Both.f l0 l1 all = some (r1, r2)) :
  Calls Tryz.prog 15 #[.slice A0 l0.length c0, .slice A1 l1.length c1, .bool all] w fun e w' => ∃ v0_ : Value, e = .returned (.tuple #[v0_, .int .i64 r2]) ∧ Kd.S (Kd.slice 61 k61) 40 w' w.heap.size (fun _ => True) v0_ r1 ∧ Below w.heap.size w w' := by
 unfold rows_Both.f at h
 have HS := aM (fun W hb => small_two A0 A1 c0 c1 l0 l1 w W hr0 hc0 hr1 hc1 hb)
 by_cases hs : smallE [l0, l1] = 0
 ·rw [if_pos hs] at h
  by_cases hk : okRR l0 = true ∧ okRR l1 = true
  case neg => rw [if_neg hk] at h; cases h
  rw [if_pos hk] at h
  simp only [Option.some.injEq, Prod.mk.injEq] at h
  obtain ⟨rfl, rfl⟩ := h
  rw [hs] at HS
  have HI := aM (fun W (hb : Below w.heap.size w W) => inFR.calls A0 A1 c0 c1 l0 l1 all W (hL_.below hb) (Kd.C_below hr0 hb) hc0 (Kd.C_below hr1 hb) hk.1 hk.2)
  clear hL_ hr0 hc0 hr1 hc1 hs hk
  generalize canR (takeIn (cnt l1) (if all = true then l0 else oneR l0)) = res at HI ⊢
  generalize l0.length = n0 at HS HI ⊢
  generalize l1.length = n1 at HS HI ⊢
  go_enter Tryz.func15, Tryz.ntmps15
  go_wp2_with (first
   | (go_at_call 52; refine (HS.out _ (Below.refl _ _)).mono ?_; rintro e w1 ⟨rfl, hb1⟩; have HB1 := aM hb1; clear hb1)
   | (go_at_call 53; refine (HI.out _ HB1.out).mono ?_; rintro e w2 ⟨v2, rfl, hv2, hb2⟩; have HV2 := aM (Kd.S_lower hv2 HB1.out.size); have HB2 := aM (below_step HB1.out hb2); clear hv2 hb2))
  go_ret2
  exact ⟨_, rfl, HV2.out, HB2.out⟩
 ·rw [if_neg hs] at h
  simp only [Option.some.injEq, Prod.mk.injEq] at h
  obtain ⟨rfl, rfl⟩ := h
  have hs2 : (smallE [l0, l1] != 0) = true := by simpa using hs
  clear hL_ hr0 hc0 hr1 hc1 hs
  generalize smallE [l0, l1] = x at HS hs2 ⊢
  generalize l0.length = n0 at HS ⊢
  generalize l1.length = n1 at HS ⊢
  go_enter Tryz.func15, Tryz.ntmps15
  go_wp2_with (go_at_call 52; refine (HS.out _ (Below.refl _ _)).mono ?_; rintro e w1 ⟨rfl, hb1⟩)
  go_ret2
  exact ⟨_, rfl, Kd.S_nil _ _ _ _ _, hb1⟩
end Go.Proofs.YtmhobbdedmjmnaaGreatDoor.Q
end
section
namespace Go.Proofs.YtmhobbdedmjmnaaGreatDoor.Q
open Go.RowKit Go.Proofs.YtmhobbdedmjmnaaGreatDoorW.PrintWords Go.Proofs.YtmhobbdedmjmnaaGreatDoorW.PrintLast Go.Proofs.YtmhobbdedmjmnaaGreatDoorW.PrintMore
attribute [local go_sem] max2_int min2_int max_two min_two max_three min_three max_four min_four
set_option linter.unusedVariables false
set_option linter.unusedSimpArgs false
section
set_option maxRecDepth 100000 in
set_option maxHeartbeats 4000000 in
theorem withoutFR.calls (A0 A1 : Option Addr) (c0 c1 : Nat) (l0 l1 : List (List V)) (all : Bool) (w : World) (hL_ : Laid w) (hr0 : Kd.C (Kd.slice 61 k61) w A0 l0.length l0) (hc0 : l0.length ≤ c0) (hr1 : Kd.C (Kd.slice 61 k61) w A1 l1.length l1) (hok0 : okRR l0 = true) (hok1 : okRR l1 = true) :
    Calls Tryz.prog 54 #[.slice A0 l0.length c0, .slice A1 l1.length c1, .bool all] w fun e w' => ∃ v0_ : Value, e = .returned v0_ ∧ Kd.S (Kd.slice 61 k61) 40 w' w.heap.size (fun _ => True) v0_ (canR (takeOut all (cnt l1) (if all = true then l0 else oneR l0))) ∧ Below w.heap.size w w' := by
  have HLD := aM hL_
  have HCN := aM (countsR.calls A1 c1 l1 w hL_ hr1 hok1)
  have HTK := aM (fun w1 hb hlt => taken.calls A0 c0 l0 all w w1 hr0 hc0 (okRR_okR hok0) hb hlt)
  obtain ⟨t, ht⟩ : ∃ t, t = if all = true then l0 else oneR l0 := ⟨_, rfl⟩
  have htok : (t.length ≤ 1000000 ∧ ∀ r ∈ t, okRow r = true) := by
    have h8 := okRR_spec hok0
    rw [ht]
    cases all with
    | true => exact h8
    | false =>
      have h9 := oneR_spec l0
      refine ⟨?_, fun r hr => h8.2 r ((h9.2 r).1 hr)⟩
      have := oneR_len l0
      show (oneR l0).length ≤ 1000000
      omega
  have HE : Aside0 (outN all (cntN l1) t = takeOut all (cnt l1) t) := ⟨outN_eq all t _ _ (fun x hx => (okRow_spec (htok.2 x hx)).2) fun x hx => cntN_eq (okRR_vals hok1) hx⟩
  have HIR : Aside0 (InR (cntN l1)) := ⟨fun s => by have := cntN_le l1 s; have := (okRR_spec hok1).1; omega⟩
  rw [← ht] at HTK ⊢
  rw [← HE.out]
  have HT := aM htok
  have HN1 : Aside0 (l1.length ≤ 1000000) := ⟨(okRR_spec hok1).1⟩
  clear hL_ hr0 hr1 hc0 hok0 hok1 ht htok HE
  generalize l0.length = n0 at HTK ⊢
  generalize l1.length = n1 at HCN HN1 ⊢
  obtain ⟨n, hn⟩ : ∃ n, n = t.length := ⟨_, rfl⟩
  rw [← hn] at HTK
  have hle : n ≤ 1000000 := by have := HT.out.1; omega
  have HN := aM hn
  clear hn
  go_enter Tryz.func54, Tryz.ntmps54
  go_wp2_with (first
    | (go_at_call 90; refine HCN.out.mono ?_; rintro e w1 ⟨rfl, hm1, hb1⟩; have HM1 := aM hm1; have HB1 := aM hb1; clear hm1 hb1)
    | (go_at_call 91; refine (HTK.out _ HB1.out (mapIs_lt HM1.out)).mono ?_; rintro e w2 ⟨At, ct, rfl, hf2, hb2⟩; have HF2 := aM hf2; have HM2 := aM (mapIs_below HM1.out hb2); have HB2 := aM (below_step HB1.out hb2); clear hf2 hb2))
  have HLT : Aside0 (w.heap.size < w2.heap.size) := ⟨mapIs_lt HM2.out⟩
  clear HM1 HB1 HTK HCN
  go_loopg [8, 10, 11, 18] n (fun gg s8 _ _ s18 wr => ∃ (kk : Nat) (out : List (List V)) (left : List UInt8 → Int), kk ≤ n ∧ n - kk ≤ gg ∧ s18 = .int .i64 kk ∧ Aside0 (Below w.heap.size w wr) ∧ Aside0 (KeptB w.heap.size w2 wr) ∧ Aside0 (MapIs wr w.heap.size (n1 + kk) left) ∧ Aside0 (InR left) ∧ Aside0 (Kd.S (Kd.slice 61 k61) 40 wr w2.heap.size (fun _ => True) s8 out) ∧ Aside0 (outN all (cntN l1) t = out ++ outN all left (t.drop kk)))
  case atStart => exact ⟨0, [], cntN l1, Nat.zero_le _, by omega, rfl, HB2, ⟨KeptB.refl _ _⟩, HM2, HIR, ⟨Kd.S_nil _ _ _ _ _⟩, ⟨rfl⟩⟩
  case round =>
    clear HB2 HM2 HIR
    obtain ⟨kk, out, left, hkk, hg, rfl, HB, HK, HM, HIR, HO, HI⟩ := hrel
    obtain ⟨Ao, co, eo⟩ := Kd.S_slice HO.out
    subst eo
    have HOL : Aside0 (out.length ≤ 1000000) := ⟨by
      have h8 := outN_len all t (cntN l1)
      rw [HI.out, List.length_append] at h8
      have := HT.out.1
      omega⟩
    obtain ⟨m, hm⟩ : ∃ m, m = out.length := ⟨_, rfl⟩
    by_cases hlt : kk < n
    · have hltz : (kk : Int) < (n : Int) := by omega
      have hlt' : kk < t.length := by have := HN.out; omega
      have hF := Kd.F_step HF2.out fun k hk hl => HK.out.2 k hl hk
      obtain ⟨ad, cc, e1, _, hFK, hcc, _⟩ := Kd.F_get hF [] (kk : Int) (by omega) (by omega)
      cases e1
      obtain ⟨Ar, cr, rfl, hle1, hF1⟩ := Kd.FK_slice_open hFK
      have eg : t.getD (kk : Int).toNat [] = t[kk] := by rw [Int.toNat_natCast, List.getD_eq_getElem?_getD, List.getElem?_eq_getElem hlt']; rfl
      have hx0 := hcc 0 _ rfl
      rw [show (kk : Int).toNat * (Kd.slice 61 k61).sz + 0 = kk from by rw [Int.toNat_natCast]; exact Nat.mul_one kk] at hx0
      rw [eg] at hx0 hle1 hF1
      have hC1 := Kd.F_now hF1
      have hrow := HT.out.2 t[kk] (List.getElem_mem hlt')
      have htd : t.drop kk = t[kk] :: t.drop (kk + 1) := List.drop_eq_getElem_cons hlt'
      have hcall := rows_Name.calls Ar cr t[kk] (ofL (nameL t[kk])) wr (HLD.out.below HB.out) hC1 hle1 (by unfold rows_Name.f; rw [if_pos hrow])
      have hns : (ofL (nameL t[kk])).size ≤ 403000 := by
        rw [ofL_size]
        have h8 := okRow_spec hrow
        have := nameL_len _ h8.2
        have := Nat.mul_le_mul_right 403 h8.1
        omega
      have hrl : t[kk].length ≤ 1000 := (okRow_spec hrow).1
      clear hcc hFK hF eg
      generalize t[kk] = y at hx0 hrow htd hcall hns hC1 hle1 hrl hF1
      obtain ⟨c, hc⟩ : ∃ c, c = left (nameL y) := ⟨_, rfl⟩
      have hcb := HIR.out (nameL y)
      rw [← hc] at hcb
      have q0 : 0 ≤ c := hcb.1
      have q1 : c ≤ 1000000 := hcb.2
      have HC := aM hcall
      have HCE := aM hc
      have HNS := aM hns
      have HSE : Aside0 ((ofL (nameL y)).data.toList = nameL y) := ⟨rfl⟩
      have HTD := aM htd
      have HF1 := aM hF1
      have HRL := aM hrl
      clear hcall htd hc hns hcb hrow hlt' hC1 hle1 hrl hF1
      generalize ofL (nameL y) = s at HC HNS HSE
      generalize hyl : y.length = ylen at hx0 HC HF1
      have HYL := aM hyl
      clear hyl
      have HML := aM hm
      rw [← hm] at HO ⊢
      clear hm
      by_cases hpos : c = 0
      · have hz : (c == 0) = true := by rw [hpos]; rfl
        have HZ := aM hpos
        clear hpos
        go_wp2_with (first
          | (go_at_call 92; refine HC.out.mono ?_; rintro e w3 ⟨rfl, hb3⟩; have HB3 := aM (below_step HB.out hb3); have HM3 := aM (mapIs_below HM.out hb3); have HD3 := aM hb3; clear hb3)
          | (at_lookup; refine mapIs_lookup rfl _ _ rfl _ _ _ rfl HM3.out s (by have := HNS.out; simp only [maxLen]; omega) rfl c (by rw [HSE.out]; exact HCE.out.symm) ?_))
        have HB4 := HB3
        have HM4 := HM3
        have HK4 := aM (HK.out.below (HD3.out.mono HK.out.1))
        have HO4 := aM (Kd.S_below HO.out HD3.out)
        have HF4 : Aside0 (Kd.F k61 w3 (fun k => k ≠ w.heap.size) Ar y.length y) := ⟨by
          rw [HYL.out]
          exact Kd.F_below HF1.out HD3.out⟩
        go_wp2_with (first
          | (go_at_call 93; rw [← HYL.out]; refine (cloneV.calls Ar cr y _ (Kd.F_now HF4.out) (by have := HRL.out; omega)).mono ?_; rintro e w5 ⟨v5, rfl, hv5, hb5⟩; obtain ⟨A5, c5, rfl⟩ := Kd.R_slice hv5; have HO5 := aM (Kd.S_elder' HO4.out (Kd.R_base hv5) hb5); have HU5 := aM (Kd.R_lower hv5 HK4.out.1); have HK5 := aM (HK4.out.below (hb5.mono HK4.out.1)); have HM5 := aM (mapIs_below HM4.out hb5); have HB5 := aM (below_step HB4.out hb5); clear hv5 hb5)
          | (at_builtin; refine append_row rfl _ _ rfl _ _ _ _ out y rfl rfl HO5.out HU5.out HK5.out.1 (by have := HOL.out; omega) ?_; intro v6 w6 ho6 hb6 hg6; have HO6 := aM ho6; have HK6 := aM (HK5.out.below hb6); have HM6 := aM (mapIs_same HM5.out (hb6.block _ HLT.out)); have HB6 := aM (HB5.out.trans (hb6.mono (Nat.le_of_lt HLT.out))); clear ho6 hb6 hg6))
        go_roundg (n - (kk + 1))
        case measure => omega
        case rel =>
          refine ⟨kk + 1, out ++ [y], left, by omega, by omega, by go_num, HB6, HK6, ⟨mapIs_mono HM6.out (by omega)⟩, HIR, HO6, ⟨?_⟩⟩
          rw [HI.out, HTD.out, outN, if_pos (by rw [← HCE.out]; exact HZ.out), List.append_assoc]
          rfl
      · have hz : (c == 0) = false := by simpa using hpos
        have HZ := aM hpos
        have q2 : 1 ≤ c := by omega
        clear hpos
        cases all with
        | true =>
          go_wp2_with (first
            | (go_at_call 92; refine HC.out.mono ?_; rintro e w3 ⟨rfl, hb3⟩; have HB3 := aM (below_step HB.out hb3); have HM3 := aM (mapIs_below HM.out hb3); have HD3 := aM hb3; clear hb3)
            | (at_lookup; refine mapIs_lookup rfl _ _ rfl _ _ _ rfl HM3.out s (by have := HNS.out; simp only [maxLen]; omega) rfl c (by rw [HSE.out]; exact HCE.out.symm) ?_)
            | (at_mapUpdate; refine mapIs_update rfl _ _ _ rfl _ _ _ rfl HM3.out (by have := HN1.out; simp only [maxLen]; omega) s (by have := HNS.out; simp only [maxLen]; omega) rfl (c - 1) rfl (wfI (by omega) (by omega)) ?_; intro w4 hm4 hg4; have HM4 := aM hm4; have HG4 := aM hg4; clear hm4 hg4))
          have HB4 := aM (HB3.out.grown HG4.out HB3.out.size (by intro k hk; injection hk with hk; omega))
          have HK3 := aM (HK.out.below (HD3.out.mono HK.out.1))
          have HK4 := aM (HK3.out.off HG4.out)
          have HO4 := aM (S_off (Kd.S_below HO.out HD3.out) HG4.out HLT.out)
          go_roundg (n - (kk + 1))
          case measure => omega
          case rel =>
            refine ⟨kk + 1, out, putN left s.data.toList (c - 1), by omega, by omega, by go_num, HB4, HK4, HM4, ⟨HIR.out.put (by omega) (by omega)⟩, HO4, ⟨?_⟩⟩
            rw [HI.out, HTD.out, outN, if_neg (by rw [← HCE.out]; exact HZ.out), if_pos rfl, HSE.out, ← HCE.out]
        | false =>
          go_wp2_with (first
            | (go_at_call 92; refine HC.out.mono ?_; rintro e w3 ⟨rfl, hb3⟩; have HB3 := aM (below_step HB.out hb3); have HM3 := aM (mapIs_below HM.out hb3); have HD3 := aM hb3; clear hb3)
            | (at_lookup; refine mapIs_lookup rfl _ _ rfl _ _ _ rfl HM3.out s (by have := HNS.out; simp only [maxLen]; omega) rfl c (by rw [HSE.out]; exact HCE.out.symm) ?_))
          go_roundg (n - (kk + 1))
          case measure => omega
          case rel =>
            refine ⟨kk + 1, out, left, by omega, by omega, by go_num, HB3, ⟨HK.out.below (HD3.out.mono HK.out.1)⟩, ⟨mapIs_mono HM3.out (by omega)⟩, HIR, ⟨Kd.S_below HO.out HD3.out⟩, ⟨?_⟩⟩
            rw [HI.out, HTD.out, outN, if_neg (by rw [← HCE.out]; exact HZ.out), if_neg (by decide)]
    · have hltz : decide (kk < n) = false := by simpa using hlt
      have HOE : Aside0 (outN all (cntN l1) t = out) := ⟨by
        rw [HI.out, List.drop_of_length_le (by have := HN.out; omega)]
        simp [outN]⟩
      have HOK : Aside0 (okR out = true) := ⟨okR_mk (by have := HOL.out; omega) fun r hr => by
        rw [← HOE.out] at hr
        exact (okRow_spec (HT.out.2 r (outN_mem all t _ r hr))).1⟩
      rw [← hm] at HO ⊢
      clear hlt hm
      go_wp2_with (go_at_call 60; refine (sortR_can _ _ _ _ _ HO.out HOK.out).mono ?_; rintro e w3 ⟨rfl, hv3, _, hb3⟩; have HV3 := aM hv3; have HB3 := aM (hb3 w.heap.size w (Nat.le_of_lt HLT.out) HB.out HB.out.size); clear hv3 hb3)
      go_ret
      refine ⟨_, rfl, ?_, HB3.out⟩
      rw [HOE.out]
      exact Kd.S_lower HV3.out (Nat.le_of_lt HLT.out)
end
def rows_Minus.f (l0 l1 : List (List V)) (all : Bool) : Option (List (List V) × Int) := if smallE [l0, l1] = 0 then (if okRR l0 = true ∧ okRR l1 = true then some (canR (takeOut all (cnt l1) (if all = true then l0 else oneR l0)), 0) else none) else some ([], smallE [l0, l1])
set_option maxHeartbeats 2000000 in
theorem rows_Minus.calls (A0 : Option Addr) (c0 : Nat) (l0 : List (List V)) (A1 : Option Addr) (c1 : Nat) (l1 : List (List V)) (all : Bool) (r1 : List (List V)) (r2 : Int) (w : World) (hr0 : Kd.C (Kd.slice 61 k61) w A0 l0.length l0) (hc0 : l0.length ≤ c0) (hr1 : Kd.C (Kd.slice 61 k61) w A1 l1.length l1) (hc1 : l1.length ≤ c1) (hL_ : Laid w) (h : rows_Minus.f l0 l1 all = some (r1, r2)) :
    Calls Tryz.prog 16 #[.slice A0 l0.length c0, .slice A1 l1.length c1, .bool all] w fun e w' => ∃ v0_ : Value, e = .returned (.tuple #[v0_, .int .i64 r2]) ∧ Kd.S (Kd.slice 61 k61) 40 w' w.heap.size (fun _ => True) v0_ r1 ∧ Below w.heap.size w w' := by
  unfold rows_Minus.f at h
  have HS := aM (fun W hb => small_two A0 A1 c0 c1 l0 l1 w W hr0 hc0 hr1 hc1 hb)
  by_cases hs : smallE [l0, l1] = 0
  · rw [if_pos hs] at h
    by_cases hk : okRR l0 = true ∧ okRR l1 = true
    case neg => rw [if_neg hk] at h; cases h
    rw [if_pos hk] at h
    simp only [Option.some.injEq, Prod.mk.injEq] at h
    obtain ⟨rfl, rfl⟩ := h
    rw [hs] at HS
    have HI := aM (fun W (hb : Below w.heap.size w W) => withoutFR.calls A0 A1 c0 c1 l0 l1 all W (hL_.below hb) (Kd.C_below hr0 hb) hc0 (Kd.C_below hr1 hb) hk.1 hk.2)
    clear hL_ hr0 hc0 hr1 hc1 hs hk
    generalize canR (takeOut all (cnt l1) (if all = true then l0 else oneR l0)) = res at HI ⊢
    generalize l0.length = n0 at HS HI ⊢
    generalize l1.length = n1 at HS HI ⊢
    go_enter Tryz.func16, Tryz.ntmps16
    go_wp2_with (first
      | (go_at_call 52; refine (HS.out _ (Below.refl _ _)).mono ?_; rintro e w1 ⟨rfl, hb1⟩; have HB1 := aM hb1; clear hb1)
      | (go_at_call 54; refine (HI.out _ HB1.out).mono ?_; rintro e w2 ⟨v2, rfl, hv2, hb2⟩; have HV2 := aM (Kd.S_lower hv2 HB1.out.size); have HB2 := aM (below_step HB1.out hb2); clear hv2 hb2))
    go_ret2
    exact ⟨_, rfl, HV2.out, HB2.out⟩
  · rw [if_neg hs] at h
    simp only [Option.some.injEq, Prod.mk.injEq] at h
    obtain ⟨rfl, rfl⟩ := h
    have hs2 : (smallE [l0, l1] != 0) = true := by simpa using hs
    clear hL_ hr0 hc0 hr1 hc1 hs
    generalize smallE [l0, l1] = x at HS hs2 ⊢
    generalize l0.length = n0 at HS ⊢
    generalize l1.length = n1 at HS ⊢
    go_enter Tryz.func16, Tryz.ntmps16
    go_wp2_with (go_at_call 52; refine (HS.out _ (Below.refl _ _)).mono ?_; rintro e w1 ⟨rfl, hb1⟩)
    go_ret2
    exact ⟨_, rfl, Kd.S_nil _ _ _ _ _, hb1⟩
def tacticianref02_large.l0 : Nat → List (List (S61)) → Int → Option (Bool)
  | 0, _, _ => none
  | k + 1, x0, x3 => if x3 < (x0.length : Int) then (if 0 ≤ x3 then (if ((rd_L3 x0 x3).length : Int) > 16 then (some true) else (tacticianref02_large.l0 k x0 (wrap64 (x3 + 1)))) else (none)) else (some false)
def tacticianref02_large.f (k : Nat) (l0 : List (List (S61))) : Option (Bool) := if (l0.length : Int) > 20000 then (some true) else (tacticianref02_large.l0 k l0 0)
set_option maxHeartbeats 8000000 in
set_option maxRecDepth 100000 in
theorem tacticianref02_large.calls (k : Nat) (A0 : Option Addr) (c0 : Nat) (l0 : List (List (S61))) (r : Bool) (w : World) (hr0 : Kd.C (Kd.slice 61 k61) w A0 l0.length l0) (hc0 : l0.length ≤ c0) (h : tacticianref02_large.f k l0 = some r) :
  Calls Tryz.prog 55 #[.slice A0 l0.length c0] w fun e w' => e = .returned (.bool r) ∧ Drawn0 w w' := by
 have HR0 := aM hr0
 have HC0 := aM hc0
 clear hr0 hc0
 have H : (if (l0.length : Int) > 20000 then (some true) else (tacticianref02_large.l0 k l0 0)) = some r := h
 clear h
 by_cases c2 : (l0.length : Int) > 20000
 ·rw [if_pos c2] at H
  have c2b0 : decide (20000 < (l0.length : Int)) = true := decide_eq_true c2
  have c2b1 : decide (20000 < l0.length) = true := decide_eq_true (by omega)
  clear c2
  obtain rfl := Option.some.inj H
  go_enter Tryz.func55, Tryz.ntmps55
  go_wp2
  go_ret
  exact ⟨by first | rfl | (simp; done) | (simp [*]; done), by repeat (first | exact Drawn0.refl _ | apply Drawn0.step)⟩
 ·rw [if_neg c2] at H
  have c2b0 : decide (20000 < (l0.length : Int)) = false := decide_eq_false c2
  have c2b1 : decide (20000 < l0.length) = false := decide_eq_false (by omega)
  clear c2
  have H' := aM H
  clear H
  go_enter Tryz.func55, Tryz.ntmps55
  go_wp2
  go_loopg [3] k (fun kq v3 w' => ∃ (x3_1 : Int), v3 = .int .i64 x3_1 ∧ Aside0 (tacticianref02_large.l0 kq l0 x3_1 = some r) ∧ Aside0 (kq ≤ k) ∧ Drawn0 w w')
  case atStart => exact ⟨(0), (by first | rfl | (simp; done) | (simp [*]; done)), H', ⟨Nat.le_refl _⟩, by repeat (first | exact Drawn0.refl _ | apply Drawn0.step)⟩
  case round =>
   clear H'
   try clear c2
   try clear c2b0
   try clear c2b1
   obtain ⟨x3_1, rfl, HA, HK1, ⟨m1, rfl⟩⟩ := hrel
   cases gk with
   | zero => exact absurd HA.out (by simp [tacticianref02_large.l0])
   | succ k1 =>
    have H := HA.out
    clear HA
    simp only [tacticianref02_large.l0] at H
    by_cases c3 : x3_1 < (l0.length : Int)
    ·rw [if_pos c3] at H
     have c3b0 : decide (x3_1 < (l0.length : Int)) = true := decide_eq_true c3
     clear c3
     by_cases c4 : 0 ≤ x3_1
     ·rw [if_pos c4] at H
      have c4b0 : decide (0 ≤ x3_1) = true := decide_eq_true c4
      clear c4
      by_cases c5 : ((rd_L3 l0 x3_1).length : Int) > 16
      ·rw [if_pos c5] at H
       have c5b0 : decide (16 < ((rd_L3 l0 x3_1).length : Int)) = true := decide_eq_true c5
       have c5b1 : decide (16 < (rd_L3 l0 x3_1).length) = true := decide_eq_true (by omega)
       clear c5
       obtain rfl := Option.some.inj H
       have p138 : 0 ≤ (x3_1 : Int) := of_decide_eq_true (by first | (with_reducible assumption) | assumption)
       have q138 : x3_1 < (l0.length : Int) := of_decide_eq_true (by first | (with_reducible assumption) | assumption)
       obtain ⟨ad138, A138_0, c138_0, e138, hx138_0, hl138_0, hi138_0⟩ := at_L3 HR0.out x3_1 p138 q138
       cases e138
       have HR138_0 := aM hi138_0
       have HC138_0 := aM hl138_0
       clear hi138_0 hl138_0
       replace p138 := eq_true p138
       replace q138 := eq_true q138
       go_wp2
       go_ret
       exact ⟨by first | rfl | (simp; done) | (simp [*]; done), by repeat (first | exact Drawn0.refl _ | apply Drawn0.step)⟩
      ·rw [if_neg c5] at H
       have c5b0 : decide (16 < ((rd_L3 l0 x3_1).length : Int)) = false := decide_eq_false c5
       have c5b1 : decide (16 < (rd_L3 l0 x3_1).length) = false := decide_eq_false (by omega)
       clear c5
       have H' := aM H
       clear H
       have p138 : 0 ≤ (x3_1 : Int) := of_decide_eq_true (by first | (with_reducible assumption) | assumption)
       have q138 : x3_1 < (l0.length : Int) := of_decide_eq_true (by first | (with_reducible assumption) | assumption)
       obtain ⟨ad138, A138_0, c138_0, e138, hx138_0, hl138_0, hi138_0⟩ := at_L3 HR0.out x3_1 p138 q138
       cases e138
       have HR138_0 := aM hi138_0
       have HC138_0 := aM hl138_0
       clear hi138_0 hl138_0
       replace p138 := eq_true p138
       replace q138 := eq_true q138
       go_wp2
       go_roundg k1
       case measure => have := HK1.out; omega
       case rel => exact ⟨(wrap64 (x3_1 + 1)), (by first | rfl | (simp; done) | (simp [*]; done)), H', ⟨by have := HK1.out; omega⟩, by repeat (first | exact Drawn0.refl _ | apply Drawn0.step)⟩
     ·rw [if_neg c4] at H
      exact absurd H (by simp)
    ·rw [if_neg c3] at H
     have c3b0 : decide (x3_1 < (l0.length : Int)) = false := decide_eq_false c3
     clear c3
     obtain rfl := Option.some.inj H
     go_wp2
     go_ret
     exact ⟨by first | rfl | (simp; done) | (simp [*]; done), by repeat (first | exact Drawn0.refl _ | apply Drawn0.step)⟩
end Go.Proofs.YtmhobbdedmjmnaaGreatDoor.Q
end
section
namespace Go.Proofs.YtmhobbdedmjmnaaGreatDoor.Q
open Go.RowKit Go.Proofs.YtmhobbdedmjmnaaGreatDoorW.PrintWords Go.Proofs.YtmhobbdedmjmnaaGreatDoorW.PrintLast Go.Proofs.YtmhobbdedmjmnaaGreatDoorW.PrintMore
attribute [local go_sem] max2_int min2_int max_two min_two max_three min_three max_four min_four
set_option linter.unusedVariables false
set_option linter.unusedSimpArgs false
def tacticianref01_printable.l0 : Nat → ByteArray → Int → Option (Bool)
  | 0, _, _ => none
  | k + 1, x0, x3 => if x3 < (x0.size : Int) then (if 0 ≤ x3 then (if (bt x0 x3) < 32 then (some false) else (if (bt x0 x3) > 126 then (some false) else (tacticianref01_printable.l0 k x0 (wrap64 (x3 + 1))))) else (none)) else (some true)
def tacticianref01_printable.f (k : Nat) (a0 : ByteArray) : Option (Bool) := tacticianref01_printable.l0 k a0 0
set_option maxHeartbeats 8000000 in
set_option maxRecDepth 100000 in
theorem tacticianref01_printable.calls (k : Nat) (a0 : ByteArray) (r : Bool) (w : World) (h : tacticianref01_printable.f k a0 = some r) :
    Calls Tryz.prog 139 #[.string a0] w fun e w' => e = .returned (.bool r) ∧ Drawn0 w w' := by
  have H : (tacticianref01_printable.l0 k a0 0) = some r := h
  clear h
  have H' := aM H
  clear H
  go_enter Tryz.func139, Tryz.ntmps139
  go_wp2
  go_loopg [3] k (fun kq v3 w' => ∃ (x3_1 : Int), v3 = .int .i64 x3_1 ∧ Aside0 (tacticianref01_printable.l0 kq a0 x3_1 = some r) ∧ Aside0 (kq ≤ k) ∧ Drawn0 w w')
  case atStart => exact ⟨(0), (by first | rfl | (simp; done) | (simp [*]; done)), H', ⟨Nat.le_refl _⟩, by repeat (first | exact Drawn0.refl _ | apply Drawn0.step)⟩
  case round =>
    clear H'
    obtain ⟨x3_1, rfl, HA, HK1, ⟨m1, rfl⟩⟩ := hrel
    cases gk with
    | zero => exact absurd HA.out (by simp [tacticianref01_printable.l0])
    | succ k1 =>
      have H := HA.out
      clear HA
      simp only [tacticianref01_printable.l0] at H
      by_cases c2 : x3_1 < (a0.size : Int)
      · rw [if_pos c2] at H
        have c2b0 : decide (x3_1 < (a0.size : Int)) = true := decide_eq_true c2
        clear c2
        by_cases c3 : 0 ≤ x3_1
        · rw [if_pos c3] at H
          have c3b0 : decide (0 ≤ x3_1) = true := decide_eq_true c3
          clear c3
          by_cases c5 : (bt a0 x3_1) < 32
          · rw [if_pos c5] at H
            have c5b0 : decide ((bt a0 x3_1) < 32) = true := decide_eq_true c5
            clear c5
            obtain rfl := Option.some.inj H
            have p4 : 0 ≤ (x3_1 : Int) := of_decide_eq_true (by first | (with_reducible assumption) | assumption)
            have q4 : x3_1 < (a0.size : Int) := of_decide_eq_true (by first | (with_reducible assumption) | assumption)
            have hx4 := bt_at a0 x3_1
            replace p4 := eq_true p4
            replace q4 := eq_true q4
            go_wp2
            go_ret
            exact ⟨by first | rfl | (simp; done) | (simp [*]; done), by repeat (first | exact Drawn0.refl _ | apply Drawn0.step)⟩
          · rw [if_neg c5] at H
            have c5b0 : decide ((bt a0 x3_1) < 32) = false := decide_eq_false c5
            clear c5
            by_cases c7 : (bt a0 x3_1) > 126
            · rw [if_pos c7] at H
              have c7b0 : decide (126 < (bt a0 x3_1)) = true := decide_eq_true c7
              clear c7
              obtain rfl := Option.some.inj H
              have p4 : 0 ≤ (x3_1 : Int) := of_decide_eq_true (by first | (with_reducible assumption) | assumption)
              have q4 : x3_1 < (a0.size : Int) := of_decide_eq_true (by first | (with_reducible assumption) | assumption)
              have hx4 := bt_at a0 x3_1
              replace p4 := eq_true p4
              replace q4 := eq_true q4
              go_wp2
              go_ret
              exact ⟨by first | rfl | (simp; done) | (simp [*]; done), by repeat (first | exact Drawn0.refl _ | apply Drawn0.step)⟩
            · rw [if_neg c7] at H
              have c7b0 : decide (126 < (bt a0 x3_1)) = false := decide_eq_false c7
              clear c7
              have H' := aM H
              clear H
              have p4 : 0 ≤ (x3_1 : Int) := of_decide_eq_true (by first | (with_reducible assumption) | assumption)
              have q4 : x3_1 < (a0.size : Int) := of_decide_eq_true (by first | (with_reducible assumption) | assumption)
              have hx4 := bt_at a0 x3_1
              replace p4 := eq_true p4
              replace q4 := eq_true q4
              go_wp2
              go_roundg k1
              case measure => have := HK1.out; omega
              case rel => exact ⟨(wrap64 (x3_1 + 1)), (by first | rfl | (simp; done) | (simp [*]; done)), H', ⟨by have := HK1.out; omega⟩, by repeat (first | exact Drawn0.refl _ | apply Drawn0.step)⟩
        · rw [if_neg c3] at H
          exact absurd H (by simp)
      · rw [if_neg c2] at H
        have c2b0 : decide (x3_1 < (a0.size : Int)) = false := decide_eq_false c2
        clear c2
        obtain rfl := Option.some.inj H
        go_wp2
        go_ret
        exact ⟨by first | rfl | (simp; done) | (simp [*]; done), by repeat (first | exact Drawn0.refl _ | apply Drawn0.step)⟩
theorem tacticianref01_printable.l0_at (s : ByteArray) (hs : s.size ≤ 4611686018427387904) : ∀ (d i k : Nat), i + d = s.size → d < k → tacticianref01_printable.l0 k s (i : Int) = some (prL (s.data.toList.drop i)) := by
  intro d
  induction d with
  | zero =>
    intro i k hi hk
    obtain ⟨k, rfl⟩ : ∃ m, k = m + 1 := ⟨k - 1, by omega⟩
    simp only [tacticianref01_printable.l0]
    rw [if_neg (by omega), List.drop_of_length_le (by rw [Array.length_toList]; exact Nat.le_of_eq hi.symm)]
    rfl
  | succ d ih =>
    intro i k hi hk
    obtain ⟨k, rfl⟩ : ∃ m, k = m + 1 := ⟨k - 1, by omega⟩
    have hlt : i < s.size := by omega
    have hd : s.data.toList.drop i = s.data.toList[i]'(by rw [Array.length_toList]; exact hlt) :: s.data.toList.drop (i + 1) := List.drop_eq_getElem_cons (by rw [Array.length_toList]; exact hlt)
    simp only [tacticianref01_printable.l0]
    rw [if_pos (by omega), if_pos (by omega), bt_get s i hlt, hd, prL_cons, wrap_small (by omega) (by omega)]
    generalize s.data.toList[i]'(by rw [Array.length_toList]; exact hlt) = c
    by_cases h1 : (c.toNat : Int) < 32
    · rw [if_pos h1]; have : ¬ 32 ≤ c.toNat := by omega
      simp [this]
    · rw [if_neg h1]
      by_cases h2 : (c.toNat : Int) > 126
      · rw [if_pos h2]; have : ¬ c.toNat ≤ 126 := by omega
        simp [this]
      · rw [if_neg h2]; have a1 : 32 ≤ c.toNat := by omega
        have a2 : c.toNat ≤ 126 := by omega
        have := ih (i + 1) k (by omega) (by omega)
        rw [show ((i : Int) + 1) = ((i + 1 : Nat) : Int) by omega, this]
        simp [a1, a2]
def tacticianref01_printable_s.f (a0 : ByteArray) : Option (Bool) := if a0.size ≤ 4611686018427387904 then some (prL a0.data.toList) else none
theorem tacticianref01_printable_s.calls (a0 : ByteArray) (r : Bool) (w : World) (h : tacticianref01_printable_s.f a0 = some r) :
    Calls Tryz.prog 139 #[.string a0] w fun e w' => e = .returned (.bool r) ∧ Drawn0 w w' := by
  unfold tacticianref01_printable_s.f at h
  by_cases hs : a0.size ≤ 4611686018427387904
  · rw [if_pos hs] at h
    obtain rfl := Option.some.inj h
    exact tacticianref01_printable.calls (a0.size + 1) a0 _ w (tacticianref01_printable.l0_at a0 hs a0.size 0 (a0.size + 1) (by omega) (by omega))
  · rw [if_neg hs] at h; cases h
def tacticianref01_Right.f (a0_0 : Int) (a0_1 : Int) (a0_2 : ByteArray) : Option (Bool) := if a0_0 = 0 then (if a0_1 = 0 then (some (a0_2.toList == ([] : List UInt8))) else (some false)) else (if a0_0 = 1 then (some (a0_2.toList == ([] : List UInt8))) else (if a0_0 = 2 then (if a0_1 = 0 then (some (a0_2.toList == ([] : List UInt8))) else (if a0_1 = 1 then (some (a0_2.toList == ([] : List UInt8))) else (some false))) else (if a0_0 = 3 then (if a0_1 = 0 then (if (a0_2.size : Int) ≤ 200 then ((tacticianref01_printable_s.f a0_2).bind fun t140 => (some t140)) else (some false)) else (some false)) else (some false))))
set_option maxHeartbeats 8000000 in
set_option maxRecDepth 100000 in
theorem tacticianref01_Right.calls (a0_0 : Int) (a0_1 : Int) (a0_2 : ByteArray) (r : Bool) (w : World) (h : tacticianref01_Right.f a0_0 a0_1 a0_2 = some r) :
    Calls Tryz.prog 103 #[.agg #[.int .i64 a0_0, .int .i64 a0_1, .string a0_2]] w fun e w' => e = .returned (.bool r) ∧ Below w.heap.size w w' := by
  have hu61 := Tryz.underlying61
  have HB := aM (Below.refl w.heap.size w)
  have H : (if a0_0 = 0 then (if a0_1 = 0 then (some (a0_2.toList == ([] : List UInt8))) else (some false)) else (if a0_0 = 1 then (some (a0_2.toList == ([] : List UInt8))) else (if a0_0 = 2 then (if a0_1 = 0 then (some (a0_2.toList == ([] : List UInt8))) else (if a0_1 = 1 then (some (a0_2.toList == ([] : List UInt8))) else (some false))) else (if a0_0 = 3 then (if a0_1 = 0 then (if (a0_2.size : Int) ≤ 200 then ((tacticianref01_printable_s.f a0_2).bind fun t140 => (some t140)) else (some false)) else (some false)) else (some false))))) = some r := h
  clear h
  by_cases c2 : a0_0 = 0
  · rw [if_pos c2] at H
    have c2b0 : (a0_0 == 0) = true := beq_iff_eq.mpr c2
    have c2b1 : (a0_0 != 0) = false := bne_eq_false_iff_eq.mpr c2
    clear c2
    by_cases c3 : a0_1 = 0
    · rw [if_pos c3] at H
      have c3b0 : (a0_1 == 0) = true := beq_iff_eq.mpr c3
      have c3b1 : (a0_1 != 0) = false := bne_eq_false_iff_eq.mpr c3
      clear c3
      obtain rfl := Option.some.inj H
      go_enter Tryz.func103, Tryz.ntmps103
      go_wp2_with (first | ((with_reducible refine gate_dst (N := 1) rfl ?_); (try (refine gate_guard (by rfl) ?_; dsimp only)); refine box_event ?hg (N := 1) ?hd (cs := #[.int .i64 a0_0, .int .i64 a0_1, .string a0_2]) (t := 61) ?hr ?_; (case hd => rfl); (case hg => rfl); (case hr => first | (go_simp; done) | (go_simp; rfl)); intro gb139 hg w4 hbox hb; have n0_ := aM (below_step (by repeat (first | (with_reducible first | exact HB.out | apply yA | apply yN | apply yD) | exact HB.out)) hb); have n1_ := aM (hbox); have n2_ := aM ((by rw [hg]; exact (below_size (by repeat (first | (with_reducible first | exact HB.out | apply yA | apply yN | apply yD) | exact HB.out))) : w.heap.size ≤ gb139)); have n3_ := n2_; clear HB; have HB := n0_; have BK139 := n1_; have GW139 := n2_; have GE139 := n3_; clear n0_ n1_ n2_ n3_; clear hb hbox hg; have hcz5_0 : w4.cell? ⟨gb139, 0, none⟩ = some (.int .i64 a0_0) := (blk_cell BK139.out 0).trans rfl; have hcz5_1 : w4.cell? ⟨gb139, 1, none⟩ = some (.int .i64 a0_1) := (blk_cell BK139.out 1).trans rfl; have hcz5_2 : w4.cell? ⟨gb139, 2, none⟩ = some (.string a0_2) := (blk_cell BK139.out 2).trans rfl; have hfz5_0 := blk_frozen BK139.out 0; have hfz5_1 := blk_frozen BK139.out 1; have hfz5_2 := blk_frozen BK139.out 2))
      go_ret
      exact ⟨by first | rfl | (simp [errW_none, errW_some] <;> rfl) | (simp [*, errW_none, errW_some] <;> rfl), by repeat (first | (with_reducible first | exact HB.out | apply yA | apply yN | apply yD | refine below_set ?_ GE139.out) | exact HB.out)⟩
    · rw [if_neg c3] at H
      have c3b0 : (a0_1 == 0) = false := beq_eq_false_iff_ne.mpr c3
      have c3b1 : (a0_1 != 0) = true := bne_iff_ne.mpr c3
      obtain rfl := Option.some.inj H
      go_enter Tryz.func103, Tryz.ntmps103
      go_wp2_with (first | ((with_reducible refine gate_dst (N := 1) rfl ?_); (try (refine gate_guard (by rfl) ?_; dsimp only)); refine box_event ?hg (N := 1) ?hd (cs := #[.int .i64 a0_0, .int .i64 a0_1, .string a0_2]) (t := 61) ?hr ?_; (case hd => rfl); (case hg => rfl); (case hr => first | (go_simp; done) | (go_simp; rfl)); intro gb139 hg w6 hbox hb; have n0_ := aM (below_step (by repeat (first | (with_reducible first | exact HB.out | apply yA | apply yN | apply yD) | exact HB.out)) hb); have n1_ := aM (hbox); have n2_ := aM ((by rw [hg]; exact (below_size (by repeat (first | (with_reducible first | exact HB.out | apply yA | apply yN | apply yD) | exact HB.out))) : w.heap.size ≤ gb139)); have n3_ := n2_; clear HB; have HB := n0_; have BK139 := n1_; have GW139 := n2_; have GE139 := n3_; clear n0_ n1_ n2_ n3_; clear hb hbox hg; have hcz7_0 : w6.cell? ⟨gb139, 0, none⟩ = some (.int .i64 a0_0) := (blk_cell BK139.out 0).trans rfl; have hcz7_1 : w6.cell? ⟨gb139, 1, none⟩ = some (.int .i64 a0_1) := (blk_cell BK139.out 1).trans rfl; have hcz7_2 : w6.cell? ⟨gb139, 2, none⟩ = some (.string a0_2) := (blk_cell BK139.out 2).trans rfl; have hfz7_0 := blk_frozen BK139.out 0; have hfz7_1 := blk_frozen BK139.out 1; have hfz7_2 := blk_frozen BK139.out 2))
      go_ret
      exact ⟨by first | rfl | (simp [errW_none, errW_some] <;> rfl) | (simp [*, errW_none, errW_some] <;> rfl), by repeat (first | (with_reducible first | exact HB.out | apply yA | apply yN | apply yD | refine below_set ?_ GE139.out) | exact HB.out)⟩
  · rw [if_neg c2] at H
    have c2b0 : (a0_0 == 0) = false := beq_eq_false_iff_ne.mpr c2
    have c2b1 : (a0_0 != 0) = true := bne_iff_ne.mpr c2
    by_cases c8 : a0_0 = 1
    · rw [if_pos c8] at H
      have c8b0 : (a0_0 == 1) = true := beq_iff_eq.mpr c8
      have c8b1 : (a0_0 != 1) = false := bne_eq_false_iff_eq.mpr c8
      clear c8
      obtain rfl := Option.some.inj H
      go_enter Tryz.func103, Tryz.ntmps103
      go_wp2_with (first | ((with_reducible refine gate_dst (N := 1) rfl ?_); (try (refine gate_guard (by rfl) ?_; dsimp only)); refine box_event ?hg (N := 1) ?hd (cs := #[.int .i64 a0_0, .int .i64 a0_1, .string a0_2]) (t := 61) ?hr ?_; (case hd => rfl); (case hg => rfl); (case hr => first | (go_simp; done) | (go_simp; rfl)); intro gb139 hg w9 hbox hb; have n0_ := aM (below_step (by repeat (first | (with_reducible first | exact HB.out | apply yA | apply yN | apply yD) | exact HB.out)) hb); have n1_ := aM (hbox); have n2_ := aM ((by rw [hg]; exact (below_size (by repeat (first | (with_reducible first | exact HB.out | apply yA | apply yN | apply yD) | exact HB.out))) : w.heap.size ≤ gb139)); have n3_ := n2_; clear HB; have HB := n0_; have BK139 := n1_; have GW139 := n2_; have GE139 := n3_; clear n0_ n1_ n2_ n3_; clear hb hbox hg; have hcz10_0 : w9.cell? ⟨gb139, 0, none⟩ = some (.int .i64 a0_0) := (blk_cell BK139.out 0).trans rfl; have hcz10_1 : w9.cell? ⟨gb139, 1, none⟩ = some (.int .i64 a0_1) := (blk_cell BK139.out 1).trans rfl; have hcz10_2 : w9.cell? ⟨gb139, 2, none⟩ = some (.string a0_2) := (blk_cell BK139.out 2).trans rfl; have hfz10_0 := blk_frozen BK139.out 0; have hfz10_1 := blk_frozen BK139.out 1; have hfz10_2 := blk_frozen BK139.out 2))
      go_ret
      exact ⟨by first | rfl | (simp [errW_none, errW_some] <;> rfl) | (simp [*, errW_none, errW_some] <;> rfl), by repeat (first | (with_reducible first | exact HB.out | apply yA | apply yN | apply yD | refine below_set ?_ GE139.out) | exact HB.out)⟩
    · rw [if_neg c8] at H
      have c8b0 : (a0_0 == 1) = false := beq_eq_false_iff_ne.mpr c8
      have c8b1 : (a0_0 != 1) = true := bne_iff_ne.mpr c8
      by_cases c11 : a0_0 = 2
      · rw [if_pos c11] at H
        have c11b0 : (a0_0 == 2) = true := beq_iff_eq.mpr c11
        have c11b1 : (a0_0 != 2) = false := bne_eq_false_iff_eq.mpr c11
        clear c11
        by_cases c12 : a0_1 = 0
        · rw [if_pos c12] at H
          have c12b0 : (a0_1 == 0) = true := beq_iff_eq.mpr c12
          have c12b1 : (a0_1 != 0) = false := bne_eq_false_iff_eq.mpr c12
          clear c12
          obtain rfl := Option.some.inj H
          go_enter Tryz.func103, Tryz.ntmps103
          go_wp2_with (first | ((with_reducible refine gate_dst (N := 1) rfl ?_); (try (refine gate_guard (by rfl) ?_; dsimp only)); refine box_event ?hg (N := 1) ?hd (cs := #[.int .i64 a0_0, .int .i64 a0_1, .string a0_2]) (t := 61) ?hr ?_; (case hd => rfl); (case hg => rfl); (case hr => first | (go_simp; done) | (go_simp; rfl)); intro gb139 hg w13 hbox hb; have n0_ := aM (below_step (by repeat (first | (with_reducible first | exact HB.out | apply yA | apply yN | apply yD) | exact HB.out)) hb); have n1_ := aM (hbox); have n2_ := aM ((by rw [hg]; exact (below_size (by repeat (first | (with_reducible first | exact HB.out | apply yA | apply yN | apply yD) | exact HB.out))) : w.heap.size ≤ gb139)); have n3_ := n2_; clear HB; have HB := n0_; have BK139 := n1_; have GW139 := n2_; have GE139 := n3_; clear n0_ n1_ n2_ n3_; clear hb hbox hg; have hcz14_0 : w13.cell? ⟨gb139, 0, none⟩ = some (.int .i64 a0_0) := (blk_cell BK139.out 0).trans rfl; have hcz14_1 : w13.cell? ⟨gb139, 1, none⟩ = some (.int .i64 a0_1) := (blk_cell BK139.out 1).trans rfl; have hcz14_2 : w13.cell? ⟨gb139, 2, none⟩ = some (.string a0_2) := (blk_cell BK139.out 2).trans rfl; have hfz14_0 := blk_frozen BK139.out 0; have hfz14_1 := blk_frozen BK139.out 1; have hfz14_2 := blk_frozen BK139.out 2))
          go_ret
          exact ⟨by first | rfl | (simp [errW_none, errW_some] <;> rfl) | (simp [*, errW_none, errW_some] <;> rfl), by repeat (first | (with_reducible first | exact HB.out | apply yA | apply yN | apply yD | refine below_set ?_ GE139.out) | exact HB.out)⟩
        · rw [if_neg c12] at H
          have c12b0 : (a0_1 == 0) = false := beq_eq_false_iff_ne.mpr c12
          have c12b1 : (a0_1 != 0) = true := bne_iff_ne.mpr c12
          by_cases c15 : a0_1 = 1
          · rw [if_pos c15] at H
            have c15b0 : (a0_1 == 1) = true := beq_iff_eq.mpr c15
            have c15b1 : (a0_1 != 1) = false := bne_eq_false_iff_eq.mpr c15
            clear c15
            obtain rfl := Option.some.inj H
            go_enter Tryz.func103, Tryz.ntmps103
            go_wp2_with (first | ((with_reducible refine gate_dst (N := 1) rfl ?_); (try (refine gate_guard (by rfl) ?_; dsimp only)); refine box_event ?hg (N := 1) ?hd (cs := #[.int .i64 a0_0, .int .i64 a0_1, .string a0_2]) (t := 61) ?hr ?_; (case hd => rfl); (case hg => rfl); (case hr => first | (go_simp; done) | (go_simp; rfl)); intro gb139 hg w16 hbox hb; have n0_ := aM (below_step (by repeat (first | (with_reducible first | exact HB.out | apply yA | apply yN | apply yD) | exact HB.out)) hb); have n1_ := aM (hbox); have n2_ := aM ((by rw [hg]; exact (below_size (by repeat (first | (with_reducible first | exact HB.out | apply yA | apply yN | apply yD) | exact HB.out))) : w.heap.size ≤ gb139)); have n3_ := n2_; clear HB; have HB := n0_; have BK139 := n1_; have GW139 := n2_; have GE139 := n3_; clear n0_ n1_ n2_ n3_; clear hb hbox hg; have hcz17_0 : w16.cell? ⟨gb139, 0, none⟩ = some (.int .i64 a0_0) := (blk_cell BK139.out 0).trans rfl; have hcz17_1 : w16.cell? ⟨gb139, 1, none⟩ = some (.int .i64 a0_1) := (blk_cell BK139.out 1).trans rfl; have hcz17_2 : w16.cell? ⟨gb139, 2, none⟩ = some (.string a0_2) := (blk_cell BK139.out 2).trans rfl; have hfz17_0 := blk_frozen BK139.out 0; have hfz17_1 := blk_frozen BK139.out 1; have hfz17_2 := blk_frozen BK139.out 2))
            go_ret
            exact ⟨by first | rfl | (simp [errW_none, errW_some] <;> rfl) | (simp [*, errW_none, errW_some] <;> rfl), by repeat (first | (with_reducible first | exact HB.out | apply yA | apply yN | apply yD | refine below_set ?_ GE139.out) | exact HB.out)⟩
          · rw [if_neg c15] at H
            have c15b0 : (a0_1 == 1) = false := beq_eq_false_iff_ne.mpr c15
            have c15b1 : (a0_1 != 1) = true := bne_iff_ne.mpr c15
            obtain rfl := Option.some.inj H
            go_enter Tryz.func103, Tryz.ntmps103
            go_wp2_with (first | ((with_reducible refine gate_dst (N := 1) rfl ?_); (try (refine gate_guard (by rfl) ?_; dsimp only)); refine box_event ?hg (N := 1) ?hd (cs := #[.int .i64 a0_0, .int .i64 a0_1, .string a0_2]) (t := 61) ?hr ?_; (case hd => rfl); (case hg => rfl); (case hr => first | (go_simp; done) | (go_simp; rfl)); intro gb139 hg w18 hbox hb; have n0_ := aM (below_step (by repeat (first | (with_reducible first | exact HB.out | apply yA | apply yN | apply yD) | exact HB.out)) hb); have n1_ := aM (hbox); have n2_ := aM ((by rw [hg]; exact (below_size (by repeat (first | (with_reducible first | exact HB.out | apply yA | apply yN | apply yD) | exact HB.out))) : w.heap.size ≤ gb139)); have n3_ := n2_; clear HB; have HB := n0_; have BK139 := n1_; have GW139 := n2_; have GE139 := n3_; clear n0_ n1_ n2_ n3_; clear hb hbox hg; have hcz19_0 : w18.cell? ⟨gb139, 0, none⟩ = some (.int .i64 a0_0) := (blk_cell BK139.out 0).trans rfl; have hcz19_1 : w18.cell? ⟨gb139, 1, none⟩ = some (.int .i64 a0_1) := (blk_cell BK139.out 1).trans rfl; have hcz19_2 : w18.cell? ⟨gb139, 2, none⟩ = some (.string a0_2) := (blk_cell BK139.out 2).trans rfl; have hfz19_0 := blk_frozen BK139.out 0; have hfz19_1 := blk_frozen BK139.out 1; have hfz19_2 := blk_frozen BK139.out 2))
            go_ret
            exact ⟨by first | rfl | (simp [errW_none, errW_some] <;> rfl) | (simp [*, errW_none, errW_some] <;> rfl), by repeat (first | (with_reducible first | exact HB.out | apply yA | apply yN | apply yD | refine below_set ?_ GE139.out) | exact HB.out)⟩
      · rw [if_neg c11] at H
        have c11b0 : (a0_0 == 2) = false := beq_eq_false_iff_ne.mpr c11
        have c11b1 : (a0_0 != 2) = true := bne_iff_ne.mpr c11
        by_cases c20 : a0_0 = 3
        · rw [if_pos c20] at H
          have c20b0 : (a0_0 == 3) = true := beq_iff_eq.mpr c20
          have c20b1 : (a0_0 != 3) = false := bne_eq_false_iff_eq.mpr c20
          clear c20
          by_cases c21 : a0_1 = 0
          · rw [if_pos c21] at H
            have c21b0 : (a0_1 == 0) = true := beq_iff_eq.mpr c21
            have c21b1 : (a0_1 != 0) = false := bne_eq_false_iff_eq.mpr c21
            clear c21
            by_cases c22 : (a0_2.size : Int) ≤ 200
            · rw [if_pos c22] at H
              have c22b0 : decide ((a0_2.size : Int) ≤ 200) = true := decide_eq_true c22
              have c22b1 : decide (a0_2.size ≤ 200) = true := decide_eq_true (by omega)
              clear c22
              replace H := Option.bind_eq_some_iff.mp H
              obtain ⟨t140, A230, H⟩ := H
              replace H : (some t140) = some r := H
              have A23 := aM A230
              clear A230
              obtain rfl := Option.some.inj H
              go_enter Tryz.func103, Tryz.ntmps103
              go_wp2_with (first | ((with_reducible refine gate_dst (N := 1) rfl ?_); (try (refine gate_guard (by rfl) ?_; dsimp only)); refine box_event ?hg (N := 1) ?hd (cs := #[.int .i64 a0_0, .int .i64 a0_1, .string a0_2]) (t := 61) ?hr ?_; (case hd => rfl); (case hg => rfl); (case hr => first | (go_simp; done) | (go_simp; rfl)); intro gb139 hg w24 hbox hb; have n0_ := aM (below_step (by repeat (first | (with_reducible first | exact HB.out | apply yA | apply yN | apply yD) | exact HB.out)) hb); have n1_ := aM (hbox); have n2_ := aM ((by rw [hg]; exact (below_size (by repeat (first | (with_reducible first | exact HB.out | apply yA | apply yN | apply yD) | exact HB.out))) : w.heap.size ≤ gb139)); have n3_ := n2_; clear HB; have HB := n0_; have BK139 := n1_; have GW139 := n2_; have GE139 := n3_; clear n0_ n1_ n2_ n3_; clear hb hbox hg; have hcz25_0 : w24.cell? ⟨gb139, 0, none⟩ = some (.int .i64 a0_0) := (blk_cell BK139.out 0).trans rfl; have hcz25_1 : w24.cell? ⟨gb139, 1, none⟩ = some (.int .i64 a0_1) := (blk_cell BK139.out 1).trans rfl; have hcz25_2 : w24.cell? ⟨gb139, 2, none⟩ = some (.string a0_2) := (blk_cell BK139.out 2).trans rfl; have hfz25_0 := blk_frozen BK139.out 0; have hfz25_1 := blk_frozen BK139.out 1; have hfz25_2 := blk_frozen BK139.out 2) | (go_at_call 139; (with_reducible refine (tacticianref01_printable_s.calls a0_2 t140 _ A23.out).mono ?_); rintro e w' ⟨rfl, ⟨nd, rfl⟩⟩))
              go_ret
              exact ⟨by first | rfl | (simp [errW_none, errW_some] <;> rfl) | (simp [*, errW_none, errW_some] <;> rfl), by repeat (first | (with_reducible first | exact HB.out | apply yA | apply yN | apply yD | refine below_set ?_ GE139.out) | exact HB.out)⟩
            · rw [if_neg c22] at H
              have c22b0 : decide ((a0_2.size : Int) ≤ 200) = false := decide_eq_false c22
              have c22b1 : decide (a0_2.size ≤ 200) = false := decide_eq_false (by omega)
              clear c22
              obtain rfl := Option.some.inj H
              go_enter Tryz.func103, Tryz.ntmps103
              go_wp2_with (first | ((with_reducible refine gate_dst (N := 1) rfl ?_); (try (refine gate_guard (by rfl) ?_; dsimp only)); refine box_event ?hg (N := 1) ?hd (cs := #[.int .i64 a0_0, .int .i64 a0_1, .string a0_2]) (t := 61) ?hr ?_; (case hd => rfl); (case hg => rfl); (case hr => first | (go_simp; done) | (go_simp; rfl)); intro gb139 hg w26 hbox hb; have n0_ := aM (below_step (by repeat (first | (with_reducible first | exact HB.out | apply yA | apply yN | apply yD) | exact HB.out)) hb); have n1_ := aM (hbox); have n2_ := aM ((by rw [hg]; exact (below_size (by repeat (first | (with_reducible first | exact HB.out | apply yA | apply yN | apply yD) | exact HB.out))) : w.heap.size ≤ gb139)); have n3_ := n2_; clear HB; have HB := n0_; have BK139 := n1_; have GW139 := n2_; have GE139 := n3_; clear n0_ n1_ n2_ n3_; clear hb hbox hg; have hcz27_0 : w26.cell? ⟨gb139, 0, none⟩ = some (.int .i64 a0_0) := (blk_cell BK139.out 0).trans rfl; have hcz27_1 : w26.cell? ⟨gb139, 1, none⟩ = some (.int .i64 a0_1) := (blk_cell BK139.out 1).trans rfl; have hcz27_2 : w26.cell? ⟨gb139, 2, none⟩ = some (.string a0_2) := (blk_cell BK139.out 2).trans rfl; have hfz27_0 := blk_frozen BK139.out 0; have hfz27_1 := blk_frozen BK139.out 1; have hfz27_2 := blk_frozen BK139.out 2))
              go_ret
              exact ⟨by first | rfl | (simp [errW_none, errW_some] <;> rfl) | (simp [*, errW_none, errW_some] <;> rfl), by repeat (first | (with_reducible first | exact HB.out | apply yA | apply yN | apply yD | refine below_set ?_ GE139.out) | exact HB.out)⟩
          · rw [if_neg c21] at H
            have c21b0 : (a0_1 == 0) = false := beq_eq_false_iff_ne.mpr c21
            have c21b1 : (a0_1 != 0) = true := bne_iff_ne.mpr c21
            obtain rfl := Option.some.inj H
            go_enter Tryz.func103, Tryz.ntmps103
            go_wp2_with (first | ((with_reducible refine gate_dst (N := 1) rfl ?_); (try (refine gate_guard (by rfl) ?_; dsimp only)); refine box_event ?hg (N := 1) ?hd (cs := #[.int .i64 a0_0, .int .i64 a0_1, .string a0_2]) (t := 61) ?hr ?_; (case hd => rfl); (case hg => rfl); (case hr => first | (go_simp; done) | (go_simp; rfl)); intro gb139 hg w28 hbox hb; have n0_ := aM (below_step (by repeat (first | (with_reducible first | exact HB.out | apply yA | apply yN | apply yD) | exact HB.out)) hb); have n1_ := aM (hbox); have n2_ := aM ((by rw [hg]; exact (below_size (by repeat (first | (with_reducible first | exact HB.out | apply yA | apply yN | apply yD) | exact HB.out))) : w.heap.size ≤ gb139)); have n3_ := n2_; clear HB; have HB := n0_; have BK139 := n1_; have GW139 := n2_; have GE139 := n3_; clear n0_ n1_ n2_ n3_; clear hb hbox hg; have hcz29_0 : w28.cell? ⟨gb139, 0, none⟩ = some (.int .i64 a0_0) := (blk_cell BK139.out 0).trans rfl; have hcz29_1 : w28.cell? ⟨gb139, 1, none⟩ = some (.int .i64 a0_1) := (blk_cell BK139.out 1).trans rfl; have hcz29_2 : w28.cell? ⟨gb139, 2, none⟩ = some (.string a0_2) := (blk_cell BK139.out 2).trans rfl; have hfz29_0 := blk_frozen BK139.out 0; have hfz29_1 := blk_frozen BK139.out 1; have hfz29_2 := blk_frozen BK139.out 2))
            go_ret
            exact ⟨by first | rfl | (simp [errW_none, errW_some] <;> rfl) | (simp [*, errW_none, errW_some] <;> rfl), by repeat (first | (with_reducible first | exact HB.out | apply yA | apply yN | apply yD | refine below_set ?_ GE139.out) | exact HB.out)⟩
        · rw [if_neg c20] at H
          have c20b0 : (a0_0 == 3) = false := beq_eq_false_iff_ne.mpr c20
          have c20b1 : (a0_0 != 3) = true := bne_iff_ne.mpr c20
          obtain rfl := Option.some.inj H
          go_enter Tryz.func103, Tryz.ntmps103
          go_wp2_with (first | ((with_reducible refine gate_dst (N := 1) rfl ?_); (try (refine gate_guard (by rfl) ?_; dsimp only)); refine box_event ?hg (N := 1) ?hd (cs := #[.int .i64 a0_0, .int .i64 a0_1, .string a0_2]) (t := 61) ?hr ?_; (case hd => rfl); (case hg => rfl); (case hr => first | (go_simp; done) | (go_simp; rfl)); intro gb139 hg w30 hbox hb; have n0_ := aM (below_step (by repeat (first | (with_reducible first | exact HB.out | apply yA | apply yN | apply yD) | exact HB.out)) hb); have n1_ := aM (hbox); have n2_ := aM ((by rw [hg]; exact (below_size (by repeat (first | (with_reducible first | exact HB.out | apply yA | apply yN | apply yD) | exact HB.out))) : w.heap.size ≤ gb139)); have n3_ := n2_; clear HB; have HB := n0_; have BK139 := n1_; have GW139 := n2_; have GE139 := n3_; clear n0_ n1_ n2_ n3_; clear hb hbox hg; have hcz31_0 : w30.cell? ⟨gb139, 0, none⟩ = some (.int .i64 a0_0) := (blk_cell BK139.out 0).trans rfl; have hcz31_1 : w30.cell? ⟨gb139, 1, none⟩ = some (.int .i64 a0_1) := (blk_cell BK139.out 1).trans rfl; have hcz31_2 : w30.cell? ⟨gb139, 2, none⟩ = some (.string a0_2) := (blk_cell BK139.out 2).trans rfl; have hfz31_0 := blk_frozen BK139.out 0; have hfz31_1 := blk_frozen BK139.out 1; have hfz31_2 := blk_frozen BK139.out 2))
          go_ret
          exact ⟨by first | rfl | (simp [errW_none, errW_some] <;> rfl) | (simp [*, errW_none, errW_some] <;> rfl), by repeat (first | (with_reducible first | exact HB.out | apply yA | apply yN | apply yD | refine below_set ?_ GE139.out) | exact HB.out)⟩
theorem tacticianref01_Right.at (k i : Int) (s : ByteArray) : tacticianref01_Right.f k i s = some (isB k i s) := by
  unfold tacticianref01_Right.f isB
  simp only [toList_nil_iff, ByteArray.toList_eq]
  by_cases h0 : k = 0
  · simp only [if_pos h0]; by_cases hi : i = 0
    · simp [hi]
    · simp [hi]
  simp only [if_neg h0]
  by_cases h1 : k = 1
  · simp only [if_pos h1]; cases s.data.toList <;> rfl
  simp only [if_neg h1]
  by_cases h2 : k = 2
  · simp only [if_pos h2]; by_cases hi : i = 0
    · simp [hi]
    · simp only [if_neg hi]; by_cases h1 : i = 1 <;> simp [h1, hi]
  simp only [if_neg h2]
  by_cases h3 : k = 3
  · simp only [if_pos h3]; by_cases hi : i = 0
    · simp only [if_pos hi]; by_cases hs : (s.size : Int) ≤ 200
      · simp only [if_pos hs, tacticianref01_printable_s.f]; rw [if_pos (by omega)]; have : s.size ≤ 200 := by omega
        simp [hi, this]
      · simp only [if_neg hs]; have : ¬ s.size ≤ 200 := by omega
        simp [this]
    · simp only [if_neg hi]; simp [hi]
  simp only [if_neg h3]
def tacticianref01_Right_s.f (a0_0 : Int) (a0_1 : Int) (a0_2 : ByteArray) : Option (Bool) := some (isB a0_0 a0_1 a0_2)
theorem tacticianref01_Right_s.calls (a0_0 : Int) (a0_1 : Int) (a0_2 : ByteArray) (r : Bool) (w : World) (h : tacticianref01_Right_s.f a0_0 a0_1 a0_2 = some r) :
  Calls Tryz.prog 103 #[.agg #[.int .i64 a0_0, .int .i64 a0_1, .string a0_2]] w fun e w' => e = .returned (.bool r) ∧ Below w.heap.size w w' :=
 tacticianref01_Right.calls a0_0 a0_1 a0_2 r w (by rw [tacticianref01_Right.at]; exact h)
def tacticianref01_AllRight.l0 : Nat → List (S61) → Int → Option (Bool)
  | 0, _, _ => none
  | k + 1, x0, x3 => if x3 < (x0.length : Int) then (if 0 ≤ x3 then ((tacticianref01_Right_s.f ((rd_T61 x0 x3).f0) ((rd_T61 x0 x3).f1) ((rd_T61 x0 x3).f2)).bind fun t142 => (if t142 = true then (tacticianref01_AllRight.l0 k x0 (wrap64 (x3 + 1))) else (some false))) else (none)) else (some true)
def tacticianref01_AllRight.f (k : Nat) (l0 : List (S61)) : Option (Bool) := tacticianref01_AllRight.l0 k l0 0
set_option maxHeartbeats 8000000 in
set_option maxRecDepth 100000 in
theorem tacticianref01_AllRight.calls (k : Nat) (A0 : Option Addr) (c0 : Nat) (l0 : List (S61)) (r : Bool) (w : World) (hr0 : Kd.C k61 w A0 l0.length l0) (hc0 : l0.length ≤ c0) (h : tacticianref01_AllRight.f k l0 = some r) :
    Calls Tryz.prog 94 #[.slice A0 l0.length c0] w fun e w' => e = .returned (.bool r) ∧ Below w.heap.size w w' := by
  have hu61 := Tryz.underlying61
  have HR0 := aM hr0
  have HC0 := aM hc0
  clear hr0 hc0
  have HB := aM (Below.refl w.heap.size w)
  have H : (tacticianref01_AllRight.l0 k l0 0) = some r := h
  clear h
  have H' := aM H
  clear H
  go_enter Tryz.func94, Tryz.ntmps94
  go_wp2
  go_loopg [3] k (fun kq v3 w' => ∃ (x3_1 : Int), v3 = .int .i64 x3_1 ∧ Aside0 (tacticianref01_AllRight.l0 kq l0 x3_1 = some r) ∧ Aside0 (kq ≤ k) ∧ Aside0 (Below w.heap.size w w'))
  case atStart => exact ⟨(0), (by first | rfl | (simp; done) | (simp [*]; done)), H', ⟨Nat.le_refl _⟩, ⟨by repeat (first | (with_reducible first | exact HB.out | apply yA | apply yN | apply yD) | exact HB.out)⟩⟩
  case round =>
    clear H'
    obtain ⟨x3_1, rfl, HA, HK1, HB⟩ := hrel
    cases gk with
    | zero => exact absurd HA.out (by simp [tacticianref01_AllRight.l0])
    | succ k1 =>
      have H := HA.out
      clear HA
      simp only [tacticianref01_AllRight.l0] at H
      by_cases c2 : x3_1 < (l0.length : Int)
      · rw [if_pos c2] at H
        have c2b0 : decide (x3_1 < (l0.length : Int)) = true := decide_eq_true c2
        clear c2
        by_cases c3 : 0 ≤ x3_1
        · rw [if_pos c3] at H
          have c3b0 : decide (0 ≤ x3_1) = true := decide_eq_true c3
          clear c3
          replace H := Option.bind_eq_some_iff.mp H
          obtain ⟨t142, A40, H⟩ := H
          replace H : (if t142 = true then (tacticianref01_AllRight.l0 k1 l0 (wrap64 (x3_1 + 1))) else (some false)) = some r := H
          have A4 := aM A40
          clear A40
          by_cases c5 : t142 = true
          · subst c5
            have H1 : (tacticianref01_AllRight.l0 k1 l0 (wrap64 (x3_1 + 1))) = some r := by rw [if_pos rfl] at H; exact H
            clear H
            have H := H1
            clear H1
            have H' := aM H
            clear H
            have p141 : 0 ≤ (x3_1 : Int) := of_decide_eq_true (by first | (with_reducible assumption) | assumption)
            have q141 : x3_1 < (l0.length : Int) := of_decide_eq_true (by first | (with_reducible assumption) | assumption)
            obtain ⟨ad141, e141, hx141_0, hx141_1, hx141_2⟩ := at_T61 HR0.out x3_1 p141 q141
            cases e141
            replace hx141_0 := (HB.out.cell (World.block_lt_of_cell? w _ hx141_0)).trans hx141_0
            replace hx141_1 := (HB.out.cell (World.block_lt_of_cell? w _ hx141_1)).trans hx141_1
            replace hx141_2 := (HB.out.cell (World.block_lt_of_cell? w _ hx141_2)).trans hx141_2
            replace p141 := eq_true p141
            replace q141 := eq_true q141
            go_wp2_with (first | ((with_reducible refine gate_callee (f := 103) rfl ?_); refine goesL_ (some 14) rfl rfl Tryz.func103 (by kernel_rfl) rfl #[.agg #[.int .i64 ((rd_T61 l0 x3_1).f0), .int .i64 ((rd_T61 l0 x3_1).f1), .string ((rd_T61 l0 x3_1).f2)]] rfl (by (try simp only [List.map_toArray, List.map_cons, List.map_nil]); first | done | rfl | (simp only [List.length_drop, List.length_take]; rfl)) ?_; (with_reducible refine (tacticianref01_Right_s.calls ((rd_T61 l0 x3_1).f0) ((rd_T61 l0 x3_1).f1) ((rd_T61 l0 x3_1).f2) true _ A4.out).mono ?_); rintro e w6 ⟨rfl, hb⟩; refine ⟨_, rfl, ?_⟩; have n0_ := aM (below_step (by repeat (first | (with_reducible first | exact HB.out | apply yA | apply yN | apply yD) | exact HB.out)) hb); clear HB; have HB := n0_; clear n0_; (try clear hb); (try clear hb2); (try clear hk); (try clear hi)))
            go_roundg k1
            case measure => have := HK1.out; omega
            case rel => exact ⟨(wrap64 (x3_1 + 1)), (by first | rfl | (simp; done) | (simp [*]; done)), H', ⟨by have := HK1.out; omega⟩, ⟨by repeat (first | (with_reducible first | exact HB.out | apply yA | apply yN | apply yD) | exact HB.out)⟩⟩
          · replace c5 := Bool.eq_false_iff.mpr c5
            subst c5
            have H1 : (some false) = some r := by rw [if_neg (show ¬ (false = true) by decide)] at H; exact H
            clear H
            have H := H1
            clear H1
            obtain rfl := Option.some.inj H
            have p141 : 0 ≤ (x3_1 : Int) := of_decide_eq_true (by first | (with_reducible assumption) | assumption)
            have q141 : x3_1 < (l0.length : Int) := of_decide_eq_true (by first | (with_reducible assumption) | assumption)
            obtain ⟨ad141, e141, hx141_0, hx141_1, hx141_2⟩ := at_T61 HR0.out x3_1 p141 q141
            cases e141
            replace hx141_0 := (HB.out.cell (World.block_lt_of_cell? w _ hx141_0)).trans hx141_0
            replace hx141_1 := (HB.out.cell (World.block_lt_of_cell? w _ hx141_1)).trans hx141_1
            replace hx141_2 := (HB.out.cell (World.block_lt_of_cell? w _ hx141_2)).trans hx141_2
            replace p141 := eq_true p141
            replace q141 := eq_true q141
            go_wp2_with (first | ((with_reducible refine gate_callee (f := 103) rfl ?_); refine goesL_ (some 14) rfl rfl Tryz.func103 (by kernel_rfl) rfl #[.agg #[.int .i64 ((rd_T61 l0 x3_1).f0), .int .i64 ((rd_T61 l0 x3_1).f1), .string ((rd_T61 l0 x3_1).f2)]] rfl (by (try simp only [List.map_toArray, List.map_cons, List.map_nil]); first | done | rfl | (simp only [List.length_drop, List.length_take]; rfl)) ?_; (with_reducible refine (tacticianref01_Right_s.calls ((rd_T61 l0 x3_1).f0) ((rd_T61 l0 x3_1).f1) ((rd_T61 l0 x3_1).f2) false _ A4.out).mono ?_); rintro e w7 ⟨rfl, hb⟩; refine ⟨_, rfl, ?_⟩; have n0_ := aM (below_step (by repeat (first | (with_reducible first | exact HB.out | apply yA | apply yN | apply yD) | exact HB.out)) hb); clear HB; have HB := n0_; clear n0_; (try clear hb); (try clear hb2); (try clear hk); (try clear hi)))
            go_ret
            exact ⟨by first | rfl | (simp [errW_none, errW_some] <;> rfl) | (simp [*, errW_none, errW_some] <;> rfl), by repeat (first | (with_reducible first | exact HB.out | apply yA | apply yN | apply yD) | exact HB.out)⟩
        · rw [if_neg c3] at H
          exact absurd H (by simp)
      · rw [if_neg c2] at H
        have c2b0 : decide (x3_1 < (l0.length : Int)) = false := decide_eq_false c2
        clear c2
        obtain rfl := Option.some.inj H
        go_wp2
        go_ret
        exact ⟨by first | rfl | (simp [errW_none, errW_some] <;> rfl) | (simp [*, errW_none, errW_some] <;> rfl), by repeat (first | (with_reducible first | exact HB.out | apply yA | apply yN | apply yD) | exact HB.out)⟩
theorem tacticianref01_AllRight.l0_at (l : List V) (hl : l.length ≤ 4611686018427387904) : ∀ (d i k : Nat), i + d = l.length → d < k → tacticianref01_AllRight.l0 k l (i : Int) = some ((l.drop i).all isV) := by
  intro d
  induction d with
  | zero =>
    intro i k hi hk
    obtain ⟨k, rfl⟩ : ∃ m, k = m + 1 := ⟨k - 1, by omega⟩
    simp only [tacticianref01_AllRight.l0]
    rw [if_neg (by omega), List.drop_of_length_le (by omega)]
    rfl
  | succ d ih =>
    intro i k hi hk
    obtain ⟨k, rfl⟩ : ∃ m, k = m + 1 := ⟨k - 1, by omega⟩
    have hlt : i < l.length := by omega
    simp only [tacticianref01_AllRight.l0, tacticianref01_Right_s.f, Option.bind_some]
    rw [if_pos (by omega), if_pos (by omega), rd_at l i hlt, wrap_small (by omega) (by omega), List.drop_eq_getElem_cons hlt, List.all_cons]
    rw [show ((i : Int) + 1) = ((i + 1 : Nat) : Int) by omega, ih (i + 1) k (by omega) (by omega)]
    cases h : isB l[i].f0 l[i].f1 l[i].f2 <;> simp [isV, h]
def tacticianref01_AllRight_s.f (l0 : List V) : Option (Bool) := if l0.length ≤ 4611686018427387904 then some (l0.all isV) else none
theorem tacticianref01_AllRight_s.calls (A0 : Option Addr) (c0 : Nat) (l0 : List V) (r : Bool) (w : World) (hr0 : Kd.C k61 w A0 l0.length l0) (hc0 : l0.length ≤ c0) (h : tacticianref01_AllRight_s.f l0 = some r) :
    Calls Tryz.prog 94 #[.slice A0 l0.length c0] w fun e w' => e = .returned (.bool r) ∧ Below w.heap.size w w' := by
  unfold tacticianref01_AllRight_s.f at h
  by_cases hs : l0.length ≤ 4611686018427387904
  · rw [if_pos hs] at h
    obtain rfl := Option.some.inj h
    exact tacticianref01_AllRight.calls (l0.length + 1) A0 c0 l0 _ w hr0 hc0 (tacticianref01_AllRight.l0_at l0 hs l0.length 0 (l0.length + 1) (by omega) (by omega))
  · rw [if_neg hs] at h; cases h
def tacticianref02_AllRight.l0 : Nat → List (List (S61)) → Int → Option (Bool)
  | 0, _, _ => none
  | k + 1, x0, x3 => if x3 < (x0.length : Int) then (if 0 ≤ x3 then ((tacticianref01_AllRight_s.f (rd_L3 x0 x3)).bind fun t144 => (if t144 = true then (tacticianref02_AllRight.l0 k x0 (wrap64 (x3 + 1))) else (some false))) else (none)) else (some true)
def tacticianref02_AllRight.f (k : Nat) (l0 : List (List (S61))) : Option (Bool) := tacticianref02_AllRight.l0 k l0 0
set_option maxHeartbeats 8000000 in
set_option maxRecDepth 100000 in
theorem tacticianref02_AllRight.calls (k : Nat) (A0 : Option Addr) (c0 : Nat) (l0 : List (List (S61))) (r : Bool) (w : World) (hr0 : Kd.C (Kd.slice 61 k61) w A0 l0.length l0) (hc0 : l0.length ≤ c0) (h : tacticianref02_AllRight.f k l0 = some r) :
    Calls Tryz.prog 56 #[.slice A0 l0.length c0] w fun e w' => e = .returned (.bool r) ∧ Below w.heap.size w w' := by
  have HR0 := aM hr0
  have HC0 := aM hc0
  clear hr0 hc0
  have HB := aM (Below.refl w.heap.size w)
  have H : (tacticianref02_AllRight.l0 k l0 0) = some r := h
  clear h
  have H' := aM H
  clear H
  go_enter Tryz.func56, Tryz.ntmps56
  go_wp2
  go_loopg [3] k (fun kq v3 w' => ∃ (x3_1 : Int), v3 = .int .i64 x3_1 ∧ Aside0 (tacticianref02_AllRight.l0 kq l0 x3_1 = some r) ∧ Aside0 (kq ≤ k) ∧ Aside0 (Below w.heap.size w w'))
  case atStart => exact ⟨(0), (by first | rfl | (simp; done) | (simp [*]; done)), H', ⟨Nat.le_refl _⟩, ⟨by repeat (first | (with_reducible first | exact HB.out | apply yA | apply yN | apply yD) | exact HB.out)⟩⟩
  case round =>
    clear H'
    obtain ⟨x3_1, rfl, HA, HK1, HB⟩ := hrel
    cases gk with
    | zero => exact absurd HA.out (by simp [tacticianref02_AllRight.l0])
    | succ k1 =>
      have H := HA.out
      clear HA
      simp only [tacticianref02_AllRight.l0] at H
      by_cases c2 : x3_1 < (l0.length : Int)
      · rw [if_pos c2] at H
        have c2b0 : decide (x3_1 < (l0.length : Int)) = true := decide_eq_true c2
        clear c2
        by_cases c3 : 0 ≤ x3_1
        · rw [if_pos c3] at H
          have c3b0 : decide (0 ≤ x3_1) = true := decide_eq_true c3
          clear c3
          replace H := Option.bind_eq_some_iff.mp H
          obtain ⟨t144, A40, H⟩ := H
          replace H : (if t144 = true then (tacticianref02_AllRight.l0 k1 l0 (wrap64 (x3_1 + 1))) else (some false)) = some r := H
          have A4 := aM A40
          clear A40
          by_cases c5 : t144 = true
          · subst c5
            have H1 : (tacticianref02_AllRight.l0 k1 l0 (wrap64 (x3_1 + 1))) = some r := by rw [if_pos rfl] at H; exact H
            clear H
            have H := H1
            clear H1
            have H' := aM H
            clear H
            have p143 : 0 ≤ (x3_1 : Int) := of_decide_eq_true (by first | (with_reducible assumption) | assumption)
            have q143 : x3_1 < (l0.length : Int) := of_decide_eq_true (by first | (with_reducible assumption) | assumption)
            obtain ⟨ad143, A143_0, c143_0, e143, hx143_0, hl143_0, hi143_0⟩ := at_L3 HR0.out x3_1 p143 q143
            cases e143
            replace hx143_0 := (HB.out.cell (World.block_lt_of_cell? w _ hx143_0)).trans hx143_0
            have HR143_0 := aM hi143_0
            have HC143_0 := aM hl143_0
            clear hi143_0 hl143_0
            replace p143 := eq_true p143
            replace q143 := eq_true q143
            go_wp2_with (first | ((with_reducible refine gate_callee (f := 94) rfl ?_); refine goesL_ (some 14) rfl rfl Tryz.func94 (by kernel_rfl) rfl #[.slice A143_0 (rd_L3 l0 x3_1).length c143_0] rfl (by (try simp only [List.map_toArray, List.map_cons, List.map_nil]); first | done | rfl | (simp only [List.length_drop, List.length_take]; rfl)) ?_; (with_reducible refine (tacticianref01_AllRight_s.calls _ _ (rd_L3 l0 x3_1) true _ ?side1 ?side2 A4.out).mono ?_); (case side1 => repeat (first | exact (Kd.C_below HR143_0.out HB.out) | (with_reducible refine Kd.C_alloc ?_ _) | (with_reducible refine Kd.C_drewN ?_ _) | (with_reducible refine Kd.C_drew ?_))); (case side2 => exact HC143_0.out); rintro e w6 ⟨rfl, hb⟩; refine ⟨_, rfl, ?_⟩; have n0_ := aM (below_step (by repeat (first | (with_reducible first | exact HB.out | apply yA | apply yN | apply yD) | exact HB.out)) hb); clear HB; have HB := n0_; clear n0_; (try clear hb); (try clear hb2); (try clear hk); (try clear hi)))
            go_roundg k1
            case measure => have := HK1.out; omega
            case rel => exact ⟨(wrap64 (x3_1 + 1)), (by first | rfl | (simp; done) | (simp [*]; done)), H', ⟨by have := HK1.out; omega⟩, ⟨by repeat (first | (with_reducible first | exact HB.out | apply yA | apply yN | apply yD) | exact HB.out)⟩⟩
          · replace c5 := Bool.eq_false_iff.mpr c5
            subst c5
            have H1 : (some false) = some r := by rw [if_neg (show ¬ (false = true) by decide)] at H; exact H
            clear H
            have H := H1
            clear H1
            obtain rfl := Option.some.inj H
            have p143 : 0 ≤ (x3_1 : Int) := of_decide_eq_true (by first | (with_reducible assumption) | assumption)
            have q143 : x3_1 < (l0.length : Int) := of_decide_eq_true (by first | (with_reducible assumption) | assumption)
            obtain ⟨ad143, A143_0, c143_0, e143, hx143_0, hl143_0, hi143_0⟩ := at_L3 HR0.out x3_1 p143 q143
            cases e143
            replace hx143_0 := (HB.out.cell (World.block_lt_of_cell? w _ hx143_0)).trans hx143_0
            have HR143_0 := aM hi143_0
            have HC143_0 := aM hl143_0
            clear hi143_0 hl143_0
            replace p143 := eq_true p143
            replace q143 := eq_true q143
            go_wp2_with (first | ((with_reducible refine gate_callee (f := 94) rfl ?_); refine goesL_ (some 14) rfl rfl Tryz.func94 (by kernel_rfl) rfl #[.slice A143_0 (rd_L3 l0 x3_1).length c143_0] rfl (by (try simp only [List.map_toArray, List.map_cons, List.map_nil]); first | done | rfl | (simp only [List.length_drop, List.length_take]; rfl)) ?_; (with_reducible refine (tacticianref01_AllRight_s.calls _ _ (rd_L3 l0 x3_1) false _ ?side1 ?side2 A4.out).mono ?_); (case side1 => repeat (first | exact (Kd.C_below HR143_0.out HB.out) | (with_reducible refine Kd.C_alloc ?_ _) | (with_reducible refine Kd.C_drewN ?_ _) | (with_reducible refine Kd.C_drew ?_))); (case side2 => exact HC143_0.out); rintro e w7 ⟨rfl, hb⟩; refine ⟨_, rfl, ?_⟩; have n0_ := aM (below_step (by repeat (first | (with_reducible first | exact HB.out | apply yA | apply yN | apply yD) | exact HB.out)) hb); clear HB; have HB := n0_; clear n0_; (try clear hb); (try clear hb2); (try clear hk); (try clear hi)))
            go_ret
            exact ⟨by first | rfl | (simp [errW_none, errW_some] <;> rfl) | (simp [*, errW_none, errW_some] <;> rfl), by repeat (first | (with_reducible first | exact HB.out | apply yA | apply yN | apply yD) | exact HB.out)⟩
        · rw [if_neg c3] at H
          exact absurd H (by simp)
      · rw [if_neg c2] at H
        have c2b0 : decide (x3_1 < (l0.length : Int)) = false := decide_eq_false c2
        clear c2
        obtain rfl := Option.some.inj H
        go_wp2
        go_ret
        exact ⟨by first | rfl | (simp [errW_none, errW_some] <;> rfl) | (simp [*, errW_none, errW_some] <;> rfl), by repeat (first | (with_reducible first | exact HB.out | apply yA | apply yN | apply yD) | exact HB.out)⟩
def tacticianref02_List.j0 : Nat → List (List (S61)) → List (List (S61)) → Bool → Option (Int)
  | 0, _, _, _ => none
  | k + 1, x0, x1, x10 => if x10 = true then (some 2) else ((tacticianref02_AllRight.f k x0).bind fun t147 => (if t147 = true then ((tacticianref02_AllRight.f k x1).bind fun t148 => (if t148 = true then (some 0) else (some 10))) else (some 10)))
def tacticianref02_List.f (k : Nat) (l0 : List (List (S61))) (l1 : List (List (S61))) : Option (Int) := (tacticianref02_large.f k l0).bind fun t145 => (if t145 = true then (tacticianref02_List.j0 k l0 l1 true) else ((tacticianref02_large.f k l1).bind fun t146 => (tacticianref02_List.j0 k l0 l1 t146)))
set_option maxHeartbeats 8000000 in
set_option maxRecDepth 100000 in
theorem tacticianref02_List.calls (k : Nat) (A0 : Option Addr) (c0 : Nat) (l0 : List (List (S61))) (A1 : Option Addr) (c1 : Nat) (l1 : List (List (S61))) (r : Int) (w : World) (hr0 : Kd.C (Kd.slice 61 k61) w A0 l0.length l0) (hc0 : l0.length ≤ c0) (hr1 : Kd.C (Kd.slice 61 k61) w A1 l1.length l1) (hc1 : l1.length ≤ c1) (h : tacticianref02_List.f k l0 l1 = some r) :
  Calls Tryz.prog 17 #[.slice A0 l0.length c0, .slice A1 l1.length c1] w fun e w' => e = .returned (.int .i64 r) ∧ Below w.heap.size w w' := by
 have HR0 := aM hr0
 have HC0 := aM hc0
 clear hr0 hc0
 have HR1 := aM hr1
 have HC1 := aM hc1
 clear hr1 hc1
 have HB := aM (Below.refl w.heap.size w)
 have H : ((tacticianref02_large.f k l0).bind fun t145 => (if t145 = true then (tacticianref02_List.j0 k l0 l1 true) else ((tacticianref02_large.f k l1).bind fun t146 => (tacticianref02_List.j0 k l0 l1 t146)))) = some r := h
 clear h
 have HC3 := aM H
 clear H
 go_enter Tryz.func17, Tryz.ntmps17
 go_upto_region 1 with (fail)
 go_cut [10] (fun v10 wc => ∃ (kq : Nat) (x10_2 : Bool), v10 = .bool x10_2 ∧ Aside0 (tacticianref02_List.j0 kq l0 l1 x10_2 = some r) ∧ Aside0 (kq ≤ k) ∧ Aside0 (Below w.heap.size w wc))
 case first =>
  have H := HC3.out
  clear HC3
  replace H := Option.bind_eq_some_iff.mp H
  obtain ⟨t145, A40, H⟩ := H
  replace H : (if t145 = true then (tacticianref02_List.j0 k l0 l1 true) else ((tacticianref02_large.f k l1).bind fun t146 => (tacticianref02_List.j0 k l0 l1 t146))) = some r := H
  have A4 := aM A40
  clear A40
  by_cases c5 : t145 = true
  ·subst c5
   have H1 : (tacticianref02_List.j0 k l0 l1 true) = some r := by rw [if_pos rfl] at H; exact H
   clear H
   have H := H1
   clear H1
   have H' := aM H
   clear H
   go_wp2_with (first | ((with_reducible refine gate_callee (f := 55) rfl ?_); refine goesL_ (some 6) rfl rfl Tryz.func55 (by kernel_rfl) rfl #[.slice A0 l0.length c0] rfl (by (try simp only [List.map_toArray, List.map_cons, List.map_nil]); first | done | rfl | (simp only [List.length_drop, List.length_take]; rfl)) ?_; (with_reducible refine (tacticianref02_large.calls k _ _ l0 true _ ?side1 ?side2 A4.out).mono ?_); (case side1 => repeat (first | exact (Kd.C_below HR0.out HB.out) | (with_reducible refine Kd.C_alloc ?_ _) | (with_reducible refine Kd.C_drewN ?_ _) | (with_reducible refine Kd.C_drew ?_))); (case side2 => exact HC0.out); rintro e w' ⟨rfl, ⟨nd, rfl⟩⟩; refine ⟨_, rfl, ?_⟩))
   go_meet
   case rel => exact ⟨_, (true), (by first | rfl | (simp; done) | (simp [*]; done)), H', ⟨by first | omega | exact Nat.le_refl _⟩, ⟨by repeat (first | (with_reducible first | exact HB.out | apply yA | apply yN | apply yD) | exact HB.out)⟩⟩
  ·replace c5 := Bool.eq_false_iff.mpr c5
   subst c5
   have H1 : ((tacticianref02_large.f k l1).bind fun t146 => (tacticianref02_List.j0 k l0 l1 t146)) = some r := by rw [if_neg (show ¬ (false = true) by decide)] at H; exact H
   clear H
   have H := H1
   clear H1
   replace H := Option.bind_eq_some_iff.mp H
   obtain ⟨t146, A60, H⟩ := H
   replace H : (tacticianref02_List.j0 k l0 l1 t146) = some r := H
   have A6 := aM A60
   clear A60
   have H' := aM H
   clear H
   go_wp2_with (first | ((with_reducible refine gate_callee (f := 55) rfl ?_); refine goesL_ (some 6) rfl rfl Tryz.func55 (by kernel_rfl) rfl #[.slice A0 l0.length c0] rfl (by (try simp only [List.map_toArray, List.map_cons, List.map_nil]); first | done | rfl | (simp only [List.length_drop, List.length_take]; rfl)) ?_; (with_reducible refine (tacticianref02_large.calls k _ _ l0 false _ ?side1 ?side2 A4.out).mono ?_); (case side1 => repeat (first | exact (Kd.C_below HR0.out HB.out) | (with_reducible refine Kd.C_alloc ?_ _) | (with_reducible refine Kd.C_drewN ?_ _) | (with_reducible refine Kd.C_drew ?_))); (case side2 => exact HC0.out); rintro e w' ⟨rfl, ⟨nd, rfl⟩⟩; refine ⟨_, rfl, ?_⟩) | (go_at_call 55; (with_reducible refine (tacticianref02_large.calls k _ _ l1 t146 _ ?side1 ?side2 A6.out).mono ?_); (case side1 => repeat (first | exact (Kd.C_below HR1.out (by repeat (first | (with_reducible first | exact HB.out | apply yA | apply yN | apply yD) | exact HB.out))) | (with_reducible refine Kd.C_alloc ?_ _) | (with_reducible refine Kd.C_drewN ?_ _) | (with_reducible refine Kd.C_drew ?_))); (case side2 => exact HC1.out); rintro e w' ⟨rfl, ⟨nd, rfl⟩⟩))
   go_meet
   case rel => exact ⟨_, (t146), (by first | rfl | (simp; done) | (simp [*]; done)), H', ⟨by first | omega | exact Nat.le_refl _⟩, ⟨by repeat (first | (with_reducible first | exact HB.out | apply yA | apply yN | apply yD) | exact HB.out)⟩⟩
 case rest =>
  clear HC3
  try clear c1
  obtain ⟨kq, x10_2, rfl, HA, HJ2, HB⟩ := hcut
  cases kq with
  | zero => exact absurd HA.out (by simp [tacticianref02_List.j0])
  | succ kj2 =>
   have H := HA.out
   clear HA
   simp only [tacticianref02_List.j0] at H
   by_cases c7 : x10_2 = true
   ·subst c7
    have H1 : (some 2) = some r := by rw [if_pos rfl] at H; exact H
    clear H
    have H := H1
    clear H1
    obtain rfl := Option.some.inj H
    go_wp2
    go_ret
    exact ⟨by first | rfl | (simp [errW_none, errW_some] <;> rfl) | (simp [*, errW_none, errW_some] <;> rfl), by repeat (first | (with_reducible first | exact HB.out | apply yA | apply yN | apply yD) | exact HB.out)⟩
   ·replace c7 := Bool.eq_false_iff.mpr c7
    subst c7
    have H1 : ((tacticianref02_AllRight.f kj2 l0).bind fun t147 => (if t147 = true then ((tacticianref02_AllRight.f kj2 l1).bind fun t148 => (if t148 = true then (some 0) else (some 10))) else (some 10))) = some r := by rw [if_neg (show ¬ (false = true) by decide)] at H; exact H
    clear H
    have H := H1
    clear H1
    replace H := Option.bind_eq_some_iff.mp H
    obtain ⟨t147, A80, H⟩ := H
    replace H : (if t147 = true then ((tacticianref02_AllRight.f kj2 l1).bind fun t148 => (if t148 = true then (some 0) else (some 10))) else (some 10)) = some r := H
    have A8 := aM A80
    clear A80
    by_cases c9 : t147 = true
    ·subst c9
     have H1 : ((tacticianref02_AllRight.f kj2 l1).bind fun t148 => (if t148 = true then (some 0) else (some 10))) = some r := by rw [if_pos rfl] at H; exact H
     clear H
     have H := H1
     clear H1
     replace H := Option.bind_eq_some_iff.mp H
     obtain ⟨t148, A100, H⟩ := H
     replace H : (if t148 = true then (some 0) else (some 10)) = some r := H
     have A10 := aM A100
     clear A100
     by_cases c11 : t148 = true
     ·subst c11
      have H1 : (some 0) = some r := by rw [if_pos rfl] at H; exact H
      clear H
      have H := H1
      clear H1
      obtain rfl := Option.some.inj H
      go_wp2_with (first | ((with_reducible refine gate_callee (f := 56) rfl ?_); refine goesL_ (some 12) rfl rfl Tryz.func56 (by kernel_rfl) rfl #[.slice A0 l0.length c0] rfl (by (try simp only [List.map_toArray, List.map_cons, List.map_nil]); first | done | rfl | (simp only [List.length_drop, List.length_take]; rfl)) ?_; (with_reducible refine (tacticianref02_AllRight.calls kj2 _ _ l0 true _ ?side1 ?side2 A8.out).mono ?_); (case side1 => repeat (first | exact (Kd.C_below HR0.out HB.out) | (with_reducible refine Kd.C_alloc ?_ _) | (with_reducible refine Kd.C_drewN ?_ _) | (with_reducible refine Kd.C_drew ?_))); (case side2 => exact HC0.out); rintro e w12 ⟨rfl, hb⟩; refine ⟨_, rfl, ?_⟩; have n0_ := aM (below_step (by repeat (first | (with_reducible first | exact HB.out | apply yA | apply yN | apply yD) | exact HB.out)) hb); clear HB; have HB := n0_; clear n0_; (try clear hb); (try clear hb2); (try clear hk); (try clear hi)) | (go_at_call 56; (with_reducible refine (tacticianref02_AllRight.calls kj2 _ _ l1 true _ ?side1 ?side2 A10.out).mono ?_); (case side1 => repeat (first | exact (Kd.C_below HR1.out HB.out) | (with_reducible refine Kd.C_alloc ?_ _) | (with_reducible refine Kd.C_drewN ?_ _) | (with_reducible refine Kd.C_drew ?_))); (case side2 => exact HC1.out); rintro e w13 ⟨rfl, hb⟩; have n0_ := aM (below_step (by repeat (first | (with_reducible first | exact HB.out | apply yA | apply yN | apply yD) | exact HB.out)) hb); clear HB; have HB := n0_; clear n0_; (try clear hb); (try clear hb2); (try clear hk); (try clear hi)))
      go_ret
      exact ⟨by first | rfl | (simp [errW_none, errW_some] <;> rfl) | (simp [*, errW_none, errW_some] <;> rfl), by repeat (first | (with_reducible first | exact HB.out | apply yA | apply yN | apply yD) | exact HB.out)⟩
     ·replace c11 := Bool.eq_false_iff.mpr c11
      subst c11
      have H1 : (some 10) = some r := by rw [if_neg (show ¬ (false = true) by decide)] at H; exact H
      clear H
      have H := H1
      clear H1
      obtain rfl := Option.some.inj H
      go_wp2_with (first | ((with_reducible refine gate_callee (f := 56) rfl ?_); refine goesL_ (some 12) rfl rfl Tryz.func56 (by kernel_rfl) rfl #[.slice A0 l0.length c0] rfl (by (try simp only [List.map_toArray, List.map_cons, List.map_nil]); first | done | rfl | (simp only [List.length_drop, List.length_take]; rfl)) ?_; (with_reducible refine (tacticianref02_AllRight.calls kj2 _ _ l0 true _ ?side1 ?side2 A8.out).mono ?_); (case side1 => repeat (first | exact (Kd.C_below HR0.out HB.out) | (with_reducible refine Kd.C_alloc ?_ _) | (with_reducible refine Kd.C_drewN ?_ _) | (with_reducible refine Kd.C_drew ?_))); (case side2 => exact HC0.out); rintro e w14 ⟨rfl, hb⟩; refine ⟨_, rfl, ?_⟩; have n0_ := aM (below_step (by repeat (first | (with_reducible first | exact HB.out | apply yA | apply yN | apply yD) | exact HB.out)) hb); clear HB; have HB := n0_; clear n0_; (try clear hb); (try clear hb2); (try clear hk); (try clear hi)) | (go_at_call 56; (with_reducible refine (tacticianref02_AllRight.calls kj2 _ _ l1 false _ ?side1 ?side2 A10.out).mono ?_); (case side1 => repeat (first | exact (Kd.C_below HR1.out HB.out) | (with_reducible refine Kd.C_alloc ?_ _) | (with_reducible refine Kd.C_drewN ?_ _) | (with_reducible refine Kd.C_drew ?_))); (case side2 => exact HC1.out); rintro e w15 ⟨rfl, hb⟩; have n0_ := aM (below_step (by repeat (first | (with_reducible first | exact HB.out | apply yA | apply yN | apply yD) | exact HB.out)) hb); clear HB; have HB := n0_; clear n0_; (try clear hb); (try clear hb2); (try clear hk); (try clear hi)))
      go_ret
      exact ⟨by first | rfl | (simp [errW_none, errW_some] <;> rfl) | (simp [*, errW_none, errW_some] <;> rfl), by repeat (first | (with_reducible first | exact HB.out | apply yA | apply yN | apply yD) | exact HB.out)⟩
    ·replace c9 := Bool.eq_false_iff.mpr c9
     subst c9
     have H1 : (some 10) = some r := by rw [if_neg (show ¬ (false = true) by decide)] at H; exact H
     clear H
     have H := H1
     clear H1
     obtain rfl := Option.some.inj H
     go_wp2_with (first | ((with_reducible refine gate_callee (f := 56) rfl ?_); refine goesL_ (some 12) rfl rfl Tryz.func56 (by kernel_rfl) rfl #[.slice A0 l0.length c0] rfl (by (try simp only [List.map_toArray, List.map_cons, List.map_nil]); first | done | rfl | (simp only [List.length_drop, List.length_take]; rfl)) ?_; (with_reducible refine (tacticianref02_AllRight.calls kj2 _ _ l0 false _ ?side1 ?side2 A8.out).mono ?_); (case side1 => repeat (first | exact (Kd.C_below HR0.out HB.out) | (with_reducible refine Kd.C_alloc ?_ _) | (with_reducible refine Kd.C_drewN ?_ _) | (with_reducible refine Kd.C_drew ?_))); (case side2 => exact HC0.out); rintro e w16 ⟨rfl, hb⟩; refine ⟨_, rfl, ?_⟩; have n0_ := aM (below_step (by repeat (first | (with_reducible first | exact HB.out | apply yA | apply yN | apply yD) | exact HB.out)) hb); clear HB; have HB := n0_; clear n0_; (try clear hb); (try clear hb2); (try clear hk); (try clear hi)))
     go_ret
     exact ⟨by first | rfl | (simp [errW_none, errW_some] <;> rfl) | (simp [*, errW_none, errW_some] <;> rfl), by repeat (first | (with_reducible first | exact HB.out | apply yA | apply yN | apply yD) | exact HB.out)⟩
end Go.Proofs.YtmhobbdedmjmnaaGreatDoor.Q
end
