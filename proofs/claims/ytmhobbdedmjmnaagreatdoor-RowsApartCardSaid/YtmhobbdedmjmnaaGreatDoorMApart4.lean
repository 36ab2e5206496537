/- Lemmas for the claim: contracts of functions and facts about what they compute, part 5 (texts put together, and cut down to what is used, by a program of ours). -/
import Derived.Test.YtmhobbdedmjmnaaGreatDoorMApart3
section
/- Each function reached is shown to return what the plain function beside it computes, wherever that is defined (written by a program of ours for this seat). -/
namespace Go.Proofs.YtmhobbdedmjmnaaGreatDoor.Q
open Go.RowKit Go.Proofs.YtmhobbdedmjmnaaGreatDoorW.PrintWords Go.Proofs.YtmhobbdedmjmnaaGreatDoorW.PrintLast Go.Proofs.YtmhobbdedmjmnaaGreatDoorW.PrintMore
attribute [local go_sem] max2_int min2_int max_two min_two max_three min_three max_four min_four   -- for this text's walks alone
set_option linter.unusedVariables false
set_option linter.unusedSimpArgs false
def tacticianref01_Int.f (a0 : Int) : Option (Int × Int × ByteArray) := some (1, a0, (⟨#[]⟩ : ByteArray))
set_option maxHeartbeats 8000000 in
set_option maxRecDepth 100000 in
theorem tacticianref01_Int.calls (a0 : Int) (r1 : Int) (r2 : Int) (r3 : ByteArray) (w : World) (h : tacticianref01_Int.f a0 = some (r1, r2, r3)) :
    Calls Tryz.prog 41 #[.int .i64 a0] w fun e w' => e = .returned (.agg #[.int .i64 r1, .int .i64 r2, .string r3]) ∧ Below w.heap.size w w' := by
  have hu61 := Tryz.underlying61
  have HB := Aside0.mk (Below.refl w.heap.size w)
  have H : (some (1, a0, (⟨#[]⟩ : ByteArray))) = some (r1, r2, r3) := h
  clear h
  simp only [Option.some.injEq, Prod.mk.injEq] at H
  obtain ⟨rfl, rfl, rfl⟩ := H
  go_enter Tryz.func41, Tryz.ntmps41
  go_wp2_with (first | ((with_reducible refine gate_dst (N := 2) rfl ?_); refine box_event ?hg (N := 2) ?hd (cs := #[.int .i64 0, .int .i64 0, .string (⟨#[]⟩ : ByteArray)]) (t := 61) ?hr ?_; (case hd => rfl); (case hg => rfl); (case hr => first | (go_simp; done) | (go_simp; rfl)); intro gb149 hg w2 hbox hb; have n0_ := Aside0.mk (below_step (by repeat (first | (with_reducible first | exact HB.out | apply yA | apply yN | apply yD) | exact HB.out)) hb); have n1_ := Aside0.mk (hbox); have n2_ := Aside0.mk ((by rw [hg]; exact (below_size (by repeat (first | (with_reducible first | exact HB.out | apply yA | apply yN | apply yD) | exact HB.out))) : w.heap.size ≤ gb149)); have n3_ := Aside0.mk ((by rw [hg]; exact (below_size (by repeat (first | (with_reducible first | exact HB.out | apply yA | apply yN | apply yD) | exact HB.out))) : w.heap.size ≤ gb149)); clear HB; have HB := n0_; have BK149 := n1_; have GW149 := n2_; have GE149 := n3_; clear n0_ n1_ n2_ n3_; clear hb hbox hg; have hcz3_0 : w2.cell? ⟨gb149, 0, none⟩ = some (.int .i64 0) := (blk_cell BK149.out 0).trans rfl; have hcz3_1 : w2.cell? ⟨gb149, 1, none⟩ = some (.int .i64 0) := (blk_cell BK149.out 1).trans rfl; have hcz3_2 : w2.cell? ⟨gb149, 2, none⟩ = some (.string (⟨#[]⟩ : ByteArray)) := (blk_cell BK149.out 2).trans rfl; have hfz3_0 := blk_frozen BK149.out 0; have hfz3_1 := blk_frozen BK149.out 1; have hfz3_2 := blk_frozen BK149.out 2))
  refine bodyPost_ret (results_cell_row rfl _ _ gb149 61 #[.int .i64 1, .int .i64 a0, .string (⟨#[]⟩ : ByteArray)] (0, 0) _ rfl (by (with_reducible repeat (first | refine zN ?_ _ | refine zD ?_ | refine zA ?_ _)); refine blk_put (cs := #[.int .i64 1, .int .i64 a0, .string (⟨#[]⟩ : ByteArray)]) ?_ 2 _ rfl; (with_reducible repeat (first | refine zN ?_ _ | refine zD ?_ | refine zA ?_ _)); refine blk_put (cs := #[.int .i64 1, .int .i64 0, .string (⟨#[]⟩ : ByteArray)]) ?_ 1 _ rfl; (with_reducible repeat (first | refine zN ?_ _ | refine zD ?_ | refine zA ?_ _)); refine blk_put (cs := #[.int .i64 0, .int .i64 0, .string (⟨#[]⟩ : ByteArray)]) ?_ 0 _ rfl; (with_reducible repeat (first | refine zN ?_ _ | refine zD ?_ | refine zA ?_ _)); exact BK149.out) Tryz.underlying61 rfl (by kernel_rfl)) rfl ?_
  exact ⟨by first | rfl | (simp [errW_none, errW_some] <;> rfl) | (simp [*, errW_none, errW_some] <;> rfl), by repeat (first | (with_reducible first | exact HB.out | apply yA | apply yN | apply yD | refine below_set ?_ GE149.out) | exact HB.out)⟩
def tacticianlaw02_row.l0 : Nat → List Int → List (S61) → Int → Option ((List (S61)))
  | 0, _, _, _ => none
  | k + 1, x0, x3, x4 => if x4 < (x0.length : Int) then (if 0 ≤ x4 then ((tacticianref01_Int.f (rd x0 x4)).bind fun bt151 => (if x3.length < 4398046511104 then (tacticianlaw02_row.l0 k x0 (x3 ++ [(⟨bt151.1, bt151.2.1, bt151.2.2⟩ : S61)]) (wrap64 (x4 + 1))) else (none))) else (none)) else (some x3)
def tacticianlaw02_row.f (k : Nat) (l0 : List Int) : Option ((List (S61))) := tacticianlaw02_row.l0 k l0 ([] : List (S61)) 0
set_option maxHeartbeats 8000000 in
set_option maxRecDepth 100000 in
theorem tacticianlaw02_row.calls (k : Nat) (A0 : Option Addr) (c0 : Nat) (l0 : List Int) (r : List (S61)) (w : World) (hr0 : Kd.C (Kd.int .i64) w A0 l0.length l0) (hc0 : l0.length ≤ c0) (h : tacticianlaw02_row.f k l0 = some r) :
    Calls Tryz.prog 57 #[.slice A0 l0.length c0] w fun e w' => ∃ v0_ : Value, e = .returned (v0_) ∧ Kd.R k61 61 w' w.heap.size (fun _ => True) v0_ r ∧ Below w.heap.size w w' := by
  have HR0 := Aside0.mk hr0
  have HC0 := Aside0.mk hc0
  clear hr0 hc0
  have HB := Aside0.mk (Below.refl w.heap.size w)
  have H : (tacticianlaw02_row.l0 k l0 ([] : List (S61)) 0) = some r := h
  clear h
  have H' := Aside0.mk H
  clear H
  go_enter Tryz.func57, Tryz.ntmps57
  go_wp2
  go_loopg [3, 4] k (fun kq v3 v4 w' => ∃ (x3_1 : List (S61)) (x4_1 : Int), v4 = .int .i64 x4_1 ∧ Aside0 (tacticianlaw02_row.l0 kq l0 x3_1 x4_1 = some r) ∧ Aside0 (kq ≤ k) ∧ Aside0 (Kd.R k61 61 w' w.heap.size (fun _ => True) v3 x3_1) ∧ Aside0 (Below w.heap.size w w'))
  case atStart => exact ⟨(([] : List (S61))), (0), (by first | rfl | (simp; done) | (simp [*]; done)), H', ⟨Nat.le_refl _⟩, ⟨by first | exact Kd.R_nil _ _ _ _ _ | exact Kd.N_nil _ _ _ _ _ | exact Kd.V_nil _ _ _ _ _ | exact Kd.Q_nil _ _ _ _ _ | exact Kd.S_nil _ _ _ _ _⟩, ⟨by repeat (first | (with_reducible first | exact HB.out | apply yA | apply yN | apply yD) | exact HB.out)⟩⟩
  case round =>
    clear H'
    obtain ⟨x3_1, x4_1, rfl, HA, HK1, HO_3, HB⟩ := hrel
    cases gk with
    | zero => exact absurd HA.out (by simp [tacticianlaw02_row.l0])
    | succ k1 =>
      have H := HA.out
      clear HA
      simp only [tacticianlaw02_row.l0] at H
      by_cases c2 : x4_1 < (l0.length : Int)
      · rw [if_pos c2] at H
        have c2b0 : decide (x4_1 < (l0.length : Int)) = true := decide_eq_true c2
        clear c2
        by_cases c3 : 0 ≤ x4_1
        · rw [if_pos c3] at H
          have c3b0 : decide (0 ≤ x4_1) = true := decide_eq_true c3
          clear c3
          replace H := Option.bind_eq_some_iff.mp H
          obtain ⟨⟨t151, t152, t153⟩, A40, H⟩ := H
          replace H : (if x3_1.length < 4398046511104 then (tacticianlaw02_row.l0 k1 l0 (x3_1 ++ [(⟨t151, t152, t153⟩ : S61)]) (wrap64 (x4_1 + 1))) else (none)) = some r := H
          have A4 := Aside0.mk A40
          clear A40
          by_cases c5 : x3_1.length < 4398046511104
          · rw [if_pos c5] at H
            have LMc5 := Aside0.mk c5
            clear c5
            obtain ⟨y154, hy154⟩ : ∃ y_ : List (S61), y_ = (x3_1 ++ [(⟨t151, t152, t153⟩ : S61)]) := ⟨_, rfl⟩
            replace H : (tacticianlaw02_row.l0 k1 l0 y154 (wrap64 (x4_1 + 1))) = some r := by first | (rw [hy154]; with_reducible exact H) | (have H2_ := (Option.bind_some _ _).symm.trans H; rw [hy154]; with_reducible exact H2_) | (have H2_ := (Option.bind_some _ _).symm.trans H; with_reducible exact H2_) | with_reducible exact H | (rw [hy154]; exact H) | exact H
            have Ny154 := Aside0.mk hy154
            clear hy154
            have H' := Aside0.mk H
            clear H
            have p150 : 0 ≤ (x4_1 : Int) := of_decide_eq_true (by first | (with_reducible assumption) | assumption)
            have q150 : x4_1 < (l0.length : Int) := of_decide_eq_true (by first | (with_reducible assumption) | assumption)
            obtain ⟨ad150, e150, hx150_0⟩ := Kd.at_int HR0.out x4_1 p150 q150
            cases e150
            replace hx150_0 := (HB.out.cell (World.block_lt_of_cell? w _ hx150_0)).trans hx150_0
            replace p150 := eq_true p150
            replace q150 := eq_true q150
            go_wp2_with (first | ((with_reducible refine gate_callee (f := 41) rfl ?_); refine goesL_ (some 16) rfl rfl Tryz.func41 (by kernel_rfl) rfl #[.int .i64 (rd l0 x4_1)] rfl (by (try simp only [List.map_toArray, List.map_cons, List.map_nil]); first | done | rfl | (simp only [List.length_drop, List.length_take]; rfl)) ?_; (with_reducible refine (tacticianref01_Int.calls (rd l0 x4_1) t151 t152 t153 _ A4.out).mono ?_); rintro e w6 ⟨rfl, hb⟩; refine ⟨_, rfl, ?_⟩; have n0_ := Aside0.mk (Kd.R_below (by (with_reducible repeat (first | apply Kd.R_alloc | apply Kd.R_drewN | apply Kd.R_drew)); exact HO_3.out) hb); have n1_ := Aside0.mk (below_step (by repeat (first | (with_reducible first | exact HB.out | apply yA | apply yN | apply yD) | exact HB.out)) hb); clear HO_3; clear HB; have HO_3 := n0_; have HB := n1_; clear n0_ n1_; (try clear hb); (try clear hb2); (try clear hk); (try clear hi)) | ((with_reducible refine gate_builtin (b := .append) (xs := #[.tmp 11, .tmp 17]) rfl ?_); at_builtin; refine Kd.R_append k61 (w0 := w) w.heap.size rfl (.tmp 11) (.tmp 17) 40 61 (.agg #[(.int .i64 0), (.int .i64 0), (.string ⟨#[]⟩)]) 32 rfl Tryz.underlying40 info61 rfl (by decide) (by omega) u3 x3_1 (⟨t151, t152, t153⟩ : S61) [.int .i64 t151, .int .i64 t152, .string t153] (fun _ => True) (fun _ => False) rfl rfl ?aP (fun _ hk => hk.elim) ?aF ?aO ?aB ?aS ?aL ?_; (case aP => exact k61_mkM _ _ _ (⟨t151, t152, t153⟩ : S61)); (case aB => exact (by repeat (first | (with_reducible first | exact HB.out | apply yA | apply yN | apply yD) | exact HB.out))); (case aF => exact (fun _ _ => trivial)); (case aO => exact (by (with_reducible repeat (first | apply Kd.R_alloc | apply Kd.R_drewN | apply Kd.R_drew)); exact HO_3.out)); (case aS => exact (below_size (by repeat (first | (with_reducible first | exact HB.out | apply yA | apply yN | apply yD) | exact HB.out)))); (case aL => have := LMc5.out; omega); intro v155 w7 ho hb hg hat; rw [← Ny154.out] at ho; have n0_ := Aside0.mk (hb); have n1_ := Aside0.mk (ho); clear HB; clear HO_3; have HB := n0_; have HO156 := n1_; clear n0_ n1_; clear ho hb hg hat))
            go_roundg k1
            case measure => have := HK1.out; omega
            case rel => exact ⟨(y154), (wrap64 (x4_1 + 1)), (by first | rfl | (simp; done) | (simp [*]; done)), H', ⟨by have := HK1.out; omega⟩, ⟨by (with_reducible repeat (first | apply Kd.R_alloc | apply Kd.R_drewN | apply Kd.R_drew)); exact HO156.out⟩, ⟨by repeat (first | (with_reducible first | exact HB.out | apply yA | apply yN | apply yD) | exact HB.out)⟩⟩
          · rw [if_neg c5] at H
            exact absurd H (by simp)
        · rw [if_neg c3] at H
          exact absurd H (by simp)
      · rw [if_neg c2] at H
        have c2b0 : decide (x4_1 < (l0.length : Int)) = false := decide_eq_false c2
        clear c2
        obtain rfl := Option.some.inj H
        go_wp2
        go_ret
        exact ⟨_, by first | rfl | (simp [errW_none, errW_some] <;> rfl) | (simp [*, errW_none, errW_some] <;> rfl), by (with_reducible repeat (first | apply Kd.R_alloc | apply Kd.R_drewN | apply Kd.R_drew)); exact HO_3.out, by repeat (first | (with_reducible first | exact HB.out | apply yA | apply yN | apply yD) | exact HB.out)⟩
set_option maxHeartbeats 1000000 in
theorem placeOut.calls (gb : Nat) (A : Option Addr) (n cc : Nat) (c : Int) (W : World) (hn : n ≤ 9223372036854775807) (hc : W.cell? ⟨gb, 0, none⟩ = some (.slice A n cc)) :
    Calls Tryz.prog 97 (#[.int .i64 c] ++ #[.pointer (some ⟨gb, 0, none⟩)]) W fun e w' => e = .returned (.bool (decide (c < 0) || decide ((n : Int) ≤ c))) ∧ Below W.heap.size W w' := by
  by_cases h0 : c < 0
  · have z0 : decide (c < 0) = true := decide_eq_true h0
    rw [z0, Bool.true_or]
    go_enter Tryz.func97, Tryz.ntmps97
    go_wp2
    go_ret
    exact ⟨rfl, Below.refl _ _⟩
  · have z0 : decide (c < 0) = false := decide_eq_false h0
    rw [z0, Bool.false_or]
    by_cases h1 : (n : Int) ≤ c
    · have z1 : decide ((n : Int) ≤ c) = true := decide_eq_true h1
      rw [z1]
      go_enter Tryz.func97, Tryz.ntmps97
      go_wp2
      go_ret
      exact ⟨rfl, Below.refl _ _⟩
    · have z1 : decide ((n : Int) ≤ c) = false := decide_eq_false h1
      rw [z1]
      go_enter Tryz.func97, Tryz.ntmps97
      go_wp2
      go_ret
      exact ⟨rfl, Below.refl _ _⟩
set_option maxRecDepth 100000 in
set_option maxHeartbeats 1000000 in
theorem idxFuncI.calls (p : Int → Bool) (g : Nat) (lb : Array Value) (eg : ∀ args w, (callFunc g args).run Tryz.prog w = .ok (.enter g args) w) (A0 : Option Addr) (c0 : Nat) (l0 : List Int) (w : World)
    (hr0 : Kd.C (Kd.int .i64) w A0 l0.length l0) (hlen : l0.length ≤ 4611686018427387904)
    (hp : ∀ x ∈ l0, ∀ (W : World), Below w.heap.size w W → Calls Tryz.prog g (#[.int .i64 x] ++ lb) W fun e w' => e = .returned (.bool (p x)) ∧ Below W.heap.size W w') :
    Calls Tryz.prog 125 #[.slice A0 l0.length c0, .func (.func g) #[] lb] w fun e w' => e = .returned (.int .i64 (idxF p l0)) ∧ Below w.heap.size w w' := by
  have hu61 := Tryz.underlying61
  have HR0 := Aside0.mk hr0
  have HP := Aside0.mk hp
  clear hr0 hp
  have HB := Aside0.mk (Below.refl w.heap.size w)
  obtain ⟨n, hn⟩ : ∃ n, n = l0.length := ⟨_, rfl⟩
  rw [← hn]
  have hle : n ≤ 4611686018427387904 := by omega
  have HN := Aside0.mk hn
  clear hn hlen
  go_enter Tryz.func125, Tryz.ntmps125
  go_wp2
  go_loopg [5, 8] n (fun gg _ s8 wr => ∃ kk : Nat, kk ≤ n ∧ n - kk ≤ gg ∧ s8 = .int .i64 kk ∧ Aside0 (Below w.heap.size w wr) ∧ Aside0 (∀ j (hj : j < kk) (hj2 : j < l0.length), p l0[j] = false))
  case atStart => exact ⟨0, Nat.zero_le _, by omega, rfl, HB, ⟨fun j hj => absurd hj (Nat.not_lt_zero _)⟩⟩
  case round =>
    clear HB
    obtain ⟨kk, hkk, hg, rfl, HB, HA⟩ := hrel
    by_cases hlt : kk < n
    · have hltz : (kk : Int) < (n : Int) := by omega
      have hlt' : kk < l0.length := by have := HN.out; omega
      obtain ⟨ad, e1, hcs⟩ := HR0.out.2.2 (by omega)
      cases e1
      obtain ⟨cs, hcs1, hcs2, hcs3⟩ := hcs kk l0[kk] (List.getElem?_eq_getElem hlt')
      have hcs2' : cs = [.int .i64 l0[kk]] := hcs2
      subst hcs2'
      have hx0 : w.cell? (ad.add kk) = some (.int .i64 l0[kk]) := by
        have h9 := hcs3 0 _ rfl
        rw [show kk * (Kd.int .i64).sz + 0 = kk from Nat.mul_one kk] at h9
        exact h9
      replace hx0 := (HB.out.cell (World.block_lt_of_cell? w _ hx0)).trans hx0
      have hcall := HP.out l0[kk] (List.getElem_mem hlt') wr HB.out
      have hy : l0[kk]? = some l0[kk] := List.getElem?_eq_getElem hlt'
      clear hcs3 hcs1 hcs2
      generalize l0[kk] = y at hx0 hcall hy
      have HY := Aside0.mk hy
      clear hy hlt'
      cases hq : p y with
      | true =>
        rw [hq] at hcall
        have HC := Aside0.mk hcall
        have HQ := Aside0.mk hq
        clear hcall hq
        go_wp2_with (go_at_fn g; refine HC.out.mono ?_; rintro e w' ⟨rfl, hb'⟩)
        go_ret
        refine ⟨?_, HB.out.trans (hb'.mono HB.out.size)⟩
        have hlt' : kk < l0.length := by have := HN.out; omega
        rw [idxF_hit p l0 kk hlt' (by rw [(List.getElem?_eq_some_iff.1 HY.out).2]; exact HQ.out) (fun j hj => HA.out j hj (by omega))]
        rfl
      | false =>
        rw [hq] at hcall
        have HC := Aside0.mk hcall
        have HQ := Aside0.mk hq
        clear hcall hq
        go_wp2_with (go_at_fn g; refine HC.out.mono ?_; rintro e w' ⟨rfl, hb'⟩)
        go_roundg (n - (kk + 1))
        case measure => omega
        case rel =>
          refine ⟨kk + 1, by omega, by omega, by go_num, ⟨HB.out.trans (hb'.mono HB.out.size)⟩, ⟨fun j hj hj2 => ?_⟩⟩
          by_cases e : j = kk
          · subst e
            rw [(List.getElem?_eq_some_iff.1 HY.out).2]; exact HQ.out
          · exact HA.out j (by omega) hj2
    · have hltz : decide (kk < n) = false := by simpa using hlt
      have HE : Aside0 (kk = n) := ⟨by omega⟩
      clear hlt
      go_wp2
      go_ret
      refine ⟨?_, HB.out⟩
      rw [idxF_miss p l0 (fun j hj => HA.out j (by have := HN.out; have := HE.out; omega) hj)]
      rfl
theorem contFuncI.calls (p : Int → Bool) (g : Nat) (lb : Array Value) (eg : ∀ args w, (callFunc g args).run Tryz.prog w = .ok (.enter g args) w) (A0 : Option Addr) (c0 : Nat) (l0 : List Int) (w : World)
    (hr0 : Kd.C (Kd.int .i64) w A0 l0.length l0) (hlen : l0.length ≤ 4611686018427387904)
    (hp : ∀ x ∈ l0, ∀ (W : World), Below w.heap.size w W → Calls Tryz.prog g (#[.int .i64 x] ++ lb) W fun e w' => e = .returned (.bool (p x)) ∧ Below W.heap.size W w') :
    Calls Tryz.prog 96 #[.slice A0 l0.length c0, .func (.func g) #[] lb] w fun e w' => e = .returned (.bool (l0.any p)) ∧ Below w.heap.size w w' := by
  have hc := idxFuncI.calls p g lb eg A0 c0 l0 w hr0 hlen hp
  have HE := Aside0.mk (idxF_nonneg p l0)
  clear hr0 hp
  generalize idxF p l0 = r at hc HE
  rw [← HE.out]
  go_enter Tryz.func96, Tryz.ntmps96
  go_wp2_with (go_at_call 125; refine hc.mono ?_; rintro e w' ⟨rfl, hb'⟩)
  go_ret
  exact ⟨rfl, hb'⟩
set_option maxHeartbeats 1000000 in
theorem placesRow.calls (gb : Nat) (B : Option Addr) (cb : Nat) (by_ : List Int) (A : Option Addr) (n cc : Nat) (W : World) (hn : n ≤ 9223372036854775807) (hc : W.cell? ⟨gb, 0, none⟩ = some (.slice B by_.length cb)) (hC : Kd.C (Kd.int .i64) W B by_.length by_) (hl : by_.length ≤ 4611686018427387904) :
    Calls Tryz.prog 95 (#[.slice A n cc] ++ #[.pointer (some ⟨gb, 0, none⟩)]) W fun e w' => e = .returned (.bool (by_.any fun c => decide (c < 0) || decide ((n : Int) ≤ c))) ∧ Below W.heap.size W w' := by
  have eg : ∀ args w, (callFunc 97 args).run Tryz.prog w = .ok (.enter 97 args) w := enters_of Tryz.func97 (by kernel_rfl) rfl
  have hb : Below W.heap.size W (W.alloc (.cells #[.slice A n cc] 40)) := below_alloc (Below.refl _ _) _
  have hcall := contFuncI.calls (fun c => decide (c < 0) || decide ((n : Int) ≤ c)) 97 #[.pointer (some ⟨W.heap.size, 0, none⟩)] eg B cb by_ (W.alloc (.cells #[.slice A n cc] 40)) (Kd.C_below hC hb) hl (fun x _ W' hb' => placeOut.calls W.heap.size A n cc x W' hn (blk_cell (blk_below (blk_new W _) hb') 0))
  have HC := Aside0.mk hcall
  have hc2 : (W.alloc (.cells #[.slice A n cc] 40)).cell? ⟨gb, 0, none⟩ = some (.slice B by_.length cb) := Lib.cell?_alloc_some _ hc
  clear hcall hC hl hc
  generalize (by_.any fun c => decide (c < 0) || decide ((n : Int) ≤ c)) = b at HC ⊢
  generalize by_.length = m at HC hc2
  go_enter Tryz.func95, Tryz.ntmps95
  go_wp2_with (go_at_call 96; refine HC.out.mono ?_; rintro e w' ⟨rfl, hb'⟩)
  go_ret
  exact ⟨rfl, below_step hb hb'⟩
def rows_places.f (l0 : List (List V)) (l1 : List Int) : Option Bool := if l0.length ≤ 4611686018427387904 ∧ l1.length ≤ 4611686018427387904 then some (placesB l0 l1) else none
set_option maxHeartbeats 1000000 in
theorem rows_places.calls (A0 : Option Addr) (c0 : Nat) (l0 : List (List V)) (A1 : Option Addr) (c1 : Nat) (l1 : List Int) (r : Bool) (w : World) (hr0 : Kd.C (Kd.slice 61 k61) w A0 l0.length l0) (hc0 : l0.length ≤ c0) (hr1 : Kd.C (Kd.int .i64) w A1 l1.length l1) (hc1 : l1.length ≤ c1) (h : rows_places.f l0 l1 = some r) :
    Calls Tryz.prog 58 #[.slice A0 l0.length c0, .slice A1 l1.length c1] w fun e w' => e = .returned (.bool r) ∧ Below w.heap.size w w' := by
  unfold rows_places.f at h
  by_cases hs : l0.length ≤ 4611686018427387904 ∧ l1.length ≤ 4611686018427387904
  case neg => rw [if_neg hs] at h; cases h
  rw [if_pos hs] at h
  obtain rfl := Option.some.inj h
  clear h
  have eg : ∀ args w, (callFunc 95 args).run Tryz.prog w = .ok (.enter 95 args) w := enters_of Tryz.func95 (by kernel_rfl) rfl
  have hb : Below w.heap.size w (w.alloc (.cells #[.slice A1 l1.length c1] 34)) := below_alloc (Below.refl _ _) _
  have hcall := contFuncR.calls (fun x => l1.any fun c => decide (c < 0) || decide ((x.length : Int) ≤ c)) 95 #[.pointer (some ⟨w.heap.size, 0, none⟩)] eg A0 c0 l0 (w.alloc (.cells #[.slice A1 l1.length c1] 34)) (Kd.C_below hr0 hb) hs.1 (fun x _ A c W' hxc hCx hb' => placesRow.calls w.heap.size A1 c1 l1 A x.length c W' hCx.2.1 (blk_cell (blk_below (blk_new w _) hb') 0) (Kd.C_below hr1 (below_step hb hb')) hs.2)
  have HC := Aside0.mk hcall
  unfold placesB
  clear hcall hr0 hr1 hc0 hc1 hs
  generalize (l0.any fun x => l1.any fun c => decide (c < 0) || decide ((x.length : Int) ≤ c)) = b at HC ⊢
  generalize l0.length = n at HC ⊢
  generalize l1.length = m at HC hb ⊢
  cases b
  all_goals
    go_enter Tryz.func58, Tryz.ntmps58
    go_wp2_with (go_at_call 68; refine HC.out.mono ?_; rintro e w' ⟨rfl, hb'⟩)
    go_ret
    exact ⟨rfl, below_step hb hb'⟩
/-! ### rows_By_1: function 100 -/
section
open Go.Sort
abbrev KK := S36
theorem rd_atK (l : List KK) (k : Nat) (h : k < l.length) : rd_T36 l (k : Int) = l[k] := by
  unfold rd_T36
  simp [h]
/-- keys, in plain words -/
def keysOf (l : List KK) : List (Int × Bool) := l.map fun k => (k.f0, k.f1)
theorem belowD_grownW {B : Nat} {w W : World} (h : BelowD B w W) (hB : B ≤ W.heap.size) (n : Nat) (os : Array Obj) : BelowD B w (grow (W.drewN n) os) := ⟨below_grownW h.b hB n os, Nat.le_trans h.d (Nat.le_add_right _ _)⟩
set_option maxHeartbeats 4000000 in
set_option maxRecDepth 100000 in
theorem byKeys.calls (gb : Nat) (K : Option Addr) (ck : Nat) (ks : List KK) (A0 A1 : Option Addr) (c0 c1 : Nat) (a b : List V) (w : World) (hc : w.cell? ⟨gb, 0, none⟩ = some (.slice K ks.length ck)) (hK : Kd.C k36 w K ks.length ks)
    (hA : Kd.C k61 w A0 a.length a) (hB : Kd.C k61 w A1 b.length b) (la : a.length ≤ 4611686018427387904) (lb : b.length ≤ 4611686018427387904) (lk : ks.length ≤ 4611686018427387904) (hp : ∀ k ∈ ks, 0 ≤ k.f0 ∧ k.f0 < a.length ∧ k.f0 < b.length) :
    Calls Tryz.prog 100 (#[.slice A0 a.length c0, .slice A1 b.length c1] ++ #[.pointer (some ⟨gb, 0, none⟩)]) w fun e w' => e = .returned (.int .i64 (cfK (keysOf ks) a b)) ∧ BelowD w.heap.size w w' := by
  have mixed : Tryz.prog.follows .mixedOrders = true := by kernel_rfl
  have hu61 := Tryz.underlying61
  have hu36 := Tryz.underlying36
  have HK := Aside0.mk hK
  have HA := Aside0.mk hA
  have HB0 := Aside0.mk hB
  have HP := Aside0.mk hp
  have HOR := Aside0.mk (fun W (hb : Below w.heap.size w W) => rows_Order.grows A0 A1 c0 c1 a b (cfR a b) W (Kd.C_below hA hb) (Kd.C_below hB hb) (by unfold rows_Order.f; rw [if_pos ⟨la, lb⟩]))
  have HB := Aside0.mk (BelowD.refl w.heap.size w)
  clear hK hA hB hp la lb
  obtain ⟨n, hn⟩ : ∃ n, n = ks.length := ⟨_, rfl⟩
  rw [← hn] at hc
  have hle : n ≤ 4611686018427387904 := by omega
  have HN := Aside0.mk hn
  clear hn lk
  obtain ⟨na, hna⟩ : ∃ na, na = a.length := ⟨_, rfl⟩
  obtain ⟨nb, hnb⟩ : ∃ nb, nb = b.length := ⟨_, rfl⟩
  rw [← hna, ← hnb] at HOR ⊢
  have HNA := Aside0.mk hna
  have HNB := Aside0.mk hnb
  clear hna hnb
  go_enter Tryz.func100, Tryz.ntmps100
  go_wp2
  clear hc
  go_loopg [7, 8, 11] n (fun gg _ _ s11 wr => ∃ kk : Nat, kk ≤ n ∧ n - kk ≤ gg ∧ s11 = .int .i64 kk ∧ Aside0 (BelowD w.heap.size w wr) ∧ Aside0 (cfK (keysOf ks) a b = cfK (keysOf (ks.drop kk)) a b))
  case atStart => exact ⟨0, Nat.zero_le _, by omega, rfl, HB, ⟨rfl⟩⟩
  case round =>
    clear HB
    obtain ⟨kk, hkk, hg, rfl, HB, HA2⟩ := hrel
    by_cases hlt : kk < n
    · have hltz : (kk : Int) < (n : Int) := by omega
      have hlt' : kk < ks.length := by have := HN.out; omega
      obtain ⟨ad, e1, hx0, hx1⟩ := at_T36 HK.out (kk : Int) (by omega) (by omega)
      cases e1
      rw [rd_atK _ _ hlt'] at hx0 hx1
      simp only [Int.toNat_natCast] at hx0 hx1
      replace hx0 := cell_keeps HB.out.b hx0
      replace hx1 := cell_keeps HB.out.b hx1
      have hkr := HP.out ks[kk] (List.getElem_mem hlt')
      have EK := Aside0.mk (List.drop_eq_getElem_cons hlt')
      generalize ks[kk] = x at hx0 hx1 hkr EK
      obtain ⟨col, desc⟩ := x
      dsimp only at hx0 hx1 hkr
      have r0 : 0 ≤ col := hkr.1
      have r1 : col < (na : Int) := by have := HNA.out; omega
      have r2 : col < (nb : Int) := by have := HNB.out; omega
      obtain ⟨aa, ea, ha0, ha1, ha2⟩ := at_T61 HA.out col r0 (by omega)
      cases ea
      obtain ⟨ba, eb, hb0, hb1, hb2⟩ := at_T61 HB0.out col r0 (by omega)
      cases eb
      have eA : rd_T61 a col = atR a col := rfl
      have eB : rd_T61 b col = atR b col := rfl
      rw [eA] at ha0 ha1 ha2
      rw [eB] at hb0 hb1 hb2
      generalize hxx : atR a col = x at ha0 ha1 ha2
      generalize hyy : atR b col = y at hb0 hb1 hb2
      have EX := Aside0.mk (And.intro hxx hyy)
      clear hxx hyy hkr hlt' eA eB
      have HB1 := Aside0.mk (dA HB.out (.cells #[.int .i64 col, .bool desc] 36))
      have hbox := blk_new wr (.cells #[.int .i64 col, .bool desc] 36)
      have hsz := HB1.out.b.size
      have cg : ∀ (ad : Addr) (v : Value), w.cell? ad = some v → ∀ q os, (grow ((wr.alloc (.cells #[.int .i64 col, .bool desc] 36)).drewN q) os).cell? ad = some v := fun ad v h q os => cell_keeps (below_grownW HB1.out.b hsz q os) h
      have ca0 := cg _ _ ha0
      have ca1 := cg _ _ ha1
      have ca2 := cg _ _ ha2
      have cb0 := cg _ _ hb0
      have cb1 := cg _ _ hb1
      have cb2 := cg _ _ hb2
      have ck0 : ∀ q os, (grow ((wr.alloc (.cells #[.int .i64 col, .bool desc] 36)).drewN q) os).cell? ⟨wr.heap.size, 0, none⟩ = some (.int .i64 col) := fun q os => cell_keeps (below_grownW (Below.refl _ _) (Nat.le_refl _) q os) (blk_cell hbox 0)
      have ck1 : ∀ q os, (grow ((wr.alloc (.cells #[.int .i64 col, .bool desc] 36)).drewN q) os).cell? ⟨wr.heap.size, 1, none⟩ = some (.bool desc) := fun q os => cell_keeps (below_grownW (Below.refl _ _) (Nat.le_refl _) q os) (blk_cell hbox 1)
      clear cg ha0 ha1 ha2 hb0 hb1 hb2 hbox hsz
      have hcg : ∀ q os, Calls Tryz.prog 101 #[.agg #[.int .i64 x.f0, .int .i64 x.f1, .string x.f2], .agg #[.int .i64 y.f0, .int .i64 y.f1, .string y.f2]] (grow ((wr.alloc (.cells #[.int .i64 col, .bool desc] 36)).drewN q) os) fun e w' => e = .returned (.int .i64 (cfV x y)) ∧ ∃ q' os', w' = grow ((grow ((wr.alloc (.cells #[.int .i64 col, .bool desc] 36)).drewN q) os).drewN q') os' := fun q os =>
        (value_Order.grows 4 x.f0 x.f1 x.f2 y.f0 y.f1 y.f2 (cfV x y) _ (by rw [value_Order.at]; rfl)).mono fun _ _ ⟨he, hb⟩ => ⟨he, hb.grown⟩
      have hcv := cfV_cases x y
      have HE : Aside0 (cfK (keysOf ks) a b = if (if desc = true then - cfV x y else cfV x y) ≠ 0 then (if desc = true then - cfV x y else cfV x y) else cfK (keysOf (ks.drop (kk + 1))) a b) := ⟨by
        rw [HA2.out, EK.out]
        show cfK ((col, desc) :: keysOf (ks.drop (kk + 1))) a b = _
        rw [cfK_cons]
        dsimp only
        rw [EX.out.1, EX.out.2]⟩
      generalize cfV x y = c at hcg hcv HE
      have QC : (c = 0 ∧ Aside0 (cfK (keysOf ks) a b = cfK (keysOf (ks.drop (kk + 1))) a b)) ∨ ((c = 1 ∨ c = -1) ∧ Aside0 (cfK (keysOf ks) a b = if desc = true then - c else c)) := by
        rcases hcv with h | h | h
        · refine .inr ⟨.inr h, ⟨?_⟩⟩
          rw [HE.out, h]; cases desc <;> rfl
        · refine .inl ⟨h, ⟨?_⟩⟩
          rw [HE.out, h]; cases desc <;> rfl
        · refine .inr ⟨.inl h, ⟨?_⟩⟩
          rw [HE.out, h]; cases desc <;> rfl
      clear HE hcv
      go_wp2_with fail
      go_quiet_grown (first | (go_at_call 101; refine Calls.grown_of (hcg _ _)))
      have HB3 := Aside0.mk (belowD_grownW HB1.out HB1.out.b.size nq osq)
      have dk1 := ck1 nq osq
      clear ca0 ca1 ca2 cb0 cb1 cb2 ck0 ck1 hcg HB1
      generalize grow ((wr.alloc (.cells #[.int .i64 col, .bool desc] 36)).drewN nq) osq = w3 at HB3 dk1 ⊢
      rcases QC with ⟨rfl, HE⟩ | ⟨rfl | rfl, HE⟩
      · cases desc
        all_goals
          go_wp2
          go_roundg (n - (kk + 1))
          case measure => omega
          case rel => exact ⟨kk + 1, by omega, by omega, by go_num, HB3, HE⟩
      · cases desc
        all_goals
          go_wp2
          go_ret
          exact ⟨by rw [HE.out]; rfl, HB3.out⟩
      · cases desc
        all_goals
          go_wp2
          go_ret
          exact ⟨by rw [HE.out]; rfl, HB3.out⟩
    · have hltz : decide (kk < n) = false := by simpa using hlt
      have HE : Aside0 (cfK (keysOf ks) a b = cfR a b) := ⟨by
        rw [HA2.out, List.drop_of_length_le (by have := HN.out; omega)]; rfl⟩
      clear hlt HA2
      generalize cfR a b = r at HOR HE
      go_wp2_with (go_at_call 63; refine (HOR.out _ HB.out.b).mono ?_; rintro e w' ⟨rfl, hb'⟩)
      go_ret
      exact ⟨by rw [HE.out]; rfl, belowD_step HB.out hb'⟩
end
theorem byFn.calls (K : Option Addr) (n ck : Nat) (w : World) : Calls Tryz.prog 61 #[.slice K n ck] w fun e w' => e = .returned (.func (.func 100) #[] #[.pointer (some ⟨w.heap.size, 0, none⟩)]) ∧ w' = w.alloc (.cells #[.slice K n ck] 32) := by
 go_enter Tryz.func61, Tryz.ntmps61
 go_wp2
 go_ret
 exact ⟨rfl, rfl⟩
end Go.Proofs.YtmhobbdedmjmnaaGreatDoor.Q
end
section
/- Each function reached is shown to return what the plain function beside it computes, wherever that is defined (written by a program of ours for this seat). -/
namespace Go.Proofs.YtmhobbdedmjmnaaGreatDoor.Q
open Go.RowKit Go.Proofs.YtmhobbdedmjmnaaGreatDoorW.PrintWords Go.Proofs.YtmhobbdedmjmnaaGreatDoorW.PrintLast Go.Proofs.YtmhobbdedmjmnaaGreatDoorW.PrintMore
attribute [local go_sem] max2_int min2_int max_two min_two max_three min_three max_four min_four   -- for this text's walks alone
set_option linter.unusedVariables false
set_option linter.unusedSimpArgs false
/-! ### rows_Ordered: function 22 -/
section
open Go.Sort
variable {ops : Array Oper} {rest : List Oper} {o : Oper} {a : Act} {Q : Exit → Act → World → Prop}
theorem append_int {W : World} {base : Nat} (hgd : o.guard = none) (s x : Operand) (ho : o.op = .call { callee := .builtin .append, args := #[s, x], argTypes := #[34, 34] })
    (v : Value) (xs : List Int) (p : Int) (hs : a.eval s = v) (hx : a.eval x = .slice (some ⟨W.heap.size, 0, none⟩) 1 1)
    (HO : Kd.R (Kd.int .i64) 3 W base (fun _ => True) v xs) (hbase : base ≤ W.heap.size) (hl : xs.length ≤ 5000000)
    (h : ∀ v1 w1, Kd.R (Kd.int .i64) 3 w1 base (fun _ => True) v1 (xs ++ [p]) → Below base W w1 → wpList Tryz.prog ops Q rest (a.put o.dst v1) w1) :
    wpList Tryz.prog ops Q (o :: rest) a (W.alloc (.cells #[.int .i64 p] 3)) := by
  refine Kd.R_append (Kd.int .i64) (w0 := W) base hgd s x 34 3 (.int .i64 0) 8 ho Tryz.underlying34 (by kernel_rfl) rfl (by decide) (by omega) v xs p [.int .i64 p] (fun _ => True) (fun _ => False) hs hx rfl (fun _ hk => hk.elim) (fun _ _ => trivial) HO (Below.refl _ _) hbase (by omega) (fun v1 w1 h1 h2 _ _ => h v1 w1 h1 h2)
/-- the rows in the order of keys -/
theorem sortKeys.calls (gb : Nat) (K : Option Addr) (ck : Nat) (ks : List KK) (v : Value) (xs : List (List V)) (w0 w : World) (hb : Below w0.heap.size w0 w) (hbox : w.heap[gb]? = some (.cells #[.slice K ks.length ck] 32 (0, 0))) (hK : Kd.C k36 w0 K ks.length ks)
    (h : Kd.S (Kd.slice 61 k61) 40 w w0.heap.size (fun _ => True) v xs) (hl : okR xs = true) (lk : ks.length ≤ 1000000) (hp : placesB xs (ks.map fun k => k.f0) = true) :
    Calls Tryz.prog 60 #[v, .func (.func 100) #[] #[.pointer (some ⟨gb, 0, none⟩)]] w fun e' w' => e' = .returned (.tuple #[]) ∧ Kd.S (Kd.slice 61 k61) 40 w' w0.heap.size (fun _ => True) v (sortBy (cfK (keysOf ks)) xs) ∧ w.grownBy w' v.ownBlock ∧ (∀ (B : Nat) (w1 : World), B ≤ w0.heap.size → Below B w1 w → B ≤ w.heap.size → Below B w1 w') := by
  have hl' := okR_spec hl
  have eg : ∀ args w, (callFunc 100 args).run Tryz.prog w = .ok (.enter 100 args) w := enters_of Tryz.func100 (by kernel_rfl) rfl
  have hk36 : Kd.Heap k36 := Kd.heap_iso _ (Kd.heap_pair (Kd.heap_int _) Kd.heap_bool)
  have hin : ∀ x ∈ xs, ∀ k ∈ ks, 0 ≤ k.f0 ∧ k.f0 < (x.length : Int) := fun x hx k hk => by
    unfold placesB at hp
    have h1 : (xs.any fun x => (ks.map fun k => k.f0).any fun c => decide (c < 0) || decide ((x.length : Int) ≤ c)) = false := by simpa using hp
    have h2 := (List.any_eq_false.1 h1) x hx
    have h3 : ((ks.map fun k => k.f0).any fun c => decide (c < 0) || decide ((x.length : Int) ≤ c)) = false := by simpa using h2
    have h4 := (List.any_eq_false.1 h3) k.f0 (List.mem_map.2 ⟨k, hk, rfl⟩)
    rw [Bool.not_eq_true, Bool.or_eq_false_iff] at h4
    have h5 := of_decide_eq_false h4.1
    have h6 := of_decide_eq_false h4.2
    omega
  have hc := sortS Tryz.sortR (Kd.slice 61 k61) rfl 40 (cfK (keysOf ks)) (cfK_tc _) 100 #[.pointer (some ⟨gb, 0, none⟩)] eg v xs w w0.heap.size _ h (by have := hl'.1; omega) (fun x y cx cy W hx hy hMx hMy hW => by
    obtain ⟨A0, c0, rfl, _, hC0⟩ := M_row_reads hMx
    obtain ⟨A1, c1, rfl, _, hC1⟩ := M_row_reads hMy
    have hcell : W.heap[gb]? = _ := (hW gb (blk_lt hbox) (Kd.S_ne h hbox (by decide))).trans hbox
    have hKW : Kd.C k36 W K ks.length ks := hk36.C (fun k hk => (hW k (Nat.lt_of_lt_of_le hk hb.size) (fun e => by have := Kd.S_base h k e.symm; omega)).trans (hb.block k hk)) hK
    exact byKeys.calls gb K ck ks A0 A1 c0 c1 x y W (blk_cell hcell 0) hKW hC0 hC1 (by have := hl'.2 x hx; omega) (by have := hl'.2 y hy; omega) (by omega) (fun k hk => ⟨(hin x hx k hk).1, (hin x hx k hk).2, (hin y hy k hk).2⟩))
  change Calls Tryz.prog 60 _ _ _ at hc
  exact hc
end
def rows_Ordered.f (l0 : List (List V)) (l1 : List KK) : Option (List (List V) × Int) := if smallE [l0] = 0 then (if okR l0 = true ∧ l1.length ≤ 1000000 then (if placesB l0 (l1.map fun k => k.f0) = true then some (sortBy (cfK (keysOf l1)) l0, 0) else some ([], 1)) else none) else some ([], smallE [l0])
set_option maxRecDepth 100000 in
set_option maxHeartbeats 4000000 in
theorem rows_Ordered.calls (A0 : Option Addr) (c0 : Nat) (l0 : List (List V)) (A1 : Option Addr) (c1 : Nat) (l1 : List KK) (r1 : List (List V)) (r2 : Int) (w : World) (hr0 : Kd.C (Kd.slice 61 k61) w A0 l0.length l0) (hc0 : l0.length ≤ c0) (hr1 : Kd.C k36 w A1 l1.length l1) (hc1 : l1.length ≤ c1) (h : rows_Ordered.f l0 l1 = some (r1, r2)) :
    Calls Tryz.prog 22 #[.slice A0 l0.length c0, .slice A1 l1.length c1] w fun e w' => ∃ v0_ : Value, e = .returned (.tuple #[v0_, .int .i64 r2]) ∧ Kd.S (Kd.slice 61 k61) 40 w' w.heap.size (fun _ => True) v0_ r1 ∧ Below w.heap.size w w' := by
  unfold rows_Ordered.f at h
  have HS := Aside0.mk (fun W hb => small_one A0 c0 l0 w W hr0 hc0 hb)
  by_cases hs : smallE [l0] = 0
  case neg =>
    rw [if_neg hs] at h
    simp only [Option.some.injEq, Prod.mk.injEq] at h
    obtain ⟨rfl, rfl⟩ := h
    have hs2 : (smallE [l0] != 0) = true := by simpa using hs
    clear hr0 hc0 hr1 hc1 hs
    generalize smallE [l0] = x at HS hs2 ⊢
    generalize l0.length = n0 at HS ⊢
    generalize l1.length = n1 at *
    go_enter Tryz.func22, Tryz.ntmps22
    go_wp2_with (go_at_call 52; refine (HS.out _ (Below.refl _ _)).mono ?_; rintro e w1 ⟨rfl, hb1⟩)
    go_ret2
    exact ⟨_, rfl, Kd.S_nil _ _ _ _ _, hb1⟩
  rw [if_pos hs] at h
  by_cases hk : okR l0 = true ∧ l1.length ≤ 1000000
  case neg => rw [if_neg hk] at h; cases h
  rw [if_pos hk] at h
  rw [hs] at HS
  have hu36 := Tryz.underlying36
  have HPL := Aside0.mk (fun W (hb : Below w.heap.size w W) A c (hC : Kd.C (Kd.int .i64) W A (l1.map fun k => k.f0).length (l1.map fun k => k.f0)) hcc => rows_places.calls A0 c0 l0 A c (l1.map fun k => k.f0) (placesB l0 (l1.map fun k => k.f0)) W (Kd.C_below hr0 hb) hc0 hC hcc (by
    unfold rows_places.f
    have := (okR_spec hk.1).1
    have := hk.2
    rw [List.length_map, if_pos ⟨by omega, by omega⟩]))
  have HCP := Aside0.mk (fun W (hb : Below w.heap.size w W) => rows_Copy_s.calls A0 c0 l0 l0 W (Kd.C_below hr0 hb) hc0 (by unfold rows_Copy_s.f; rw [if_pos hk.1]))
  have HR1 := Aside0.mk hr1
  have HOK := Aside0.mk hk
  have H := Aside0.mk h
  clear hr0 hc0 hr1 hc1 hs hk h
  generalize l0.length = n0 at HS HPL HCP ⊢
  obtain ⟨n, hn⟩ : ∃ n, n = l1.length := ⟨_, rfl⟩
  rw [← hn]
  have hle : n ≤ 1000000 := by have := HOK.out.2; omega
  have HN := Aside0.mk hn
  clear hn
  go_enter Tryz.func22, Tryz.ntmps22
  go_wp2_with (go_at_call 52; refine (HS.out _ (Below.refl _ _)).mono ?_; rintro e w1 ⟨rfl, hb1⟩; have HB1 := Aside0.mk hb1; clear hb1)
  go_loopg [7, 9, 19] n (fun gg s7 _ s19 wr => ∃ kk : Nat, kk ≤ n ∧ n - kk ≤ gg ∧ s19 = .int .i64 kk ∧ Aside0 (Below w.heap.size w wr) ∧ Aside0 (Kd.R (Kd.int .i64) 3 wr w.heap.size (fun _ => True) s7 ((l1.take kk).map fun k => k.f0)))
  case atStart => exact ⟨0, Nat.zero_le _, by omega, rfl, HB1, ⟨Kd.R_nil _ _ _ _ _⟩⟩
  case round =>
    clear HB1 HS
    obtain ⟨kk, hkk, hg, rfl, HB, HO⟩ := hrel
    obtain ⟨Ao, co, eo⟩ := Kd.R_slice HO.out
    subst eo
    obtain ⟨m, hm⟩ : ∃ m, m = ((l1.take kk).map fun k => k.f0).length := ⟨_, rfl⟩
    rw [← hm] at HO ⊢
    have HM : Aside0 (((l1.take kk).map fun k => k.f0).length ≤ 1000000) := ⟨by rw [List.length_map, List.length_take]; omega⟩
    by_cases hlt : kk < n
    · clear hm
      have hltz : (kk : Int) < (n : Int) := by omega
      have hlt' : kk < l1.length := by have := HN.out; omega
      obtain ⟨ad, e1, hx0, hx1⟩ := at_T36 HR1.out (kk : Int) (by omega) (by omega)
      cases e1
      rw [rd_atK _ _ hlt'] at hx0 hx1
      simp only [Int.toNat_natCast] at hx0 hx1
      replace hx0 := cell_keeps HB.out hx0
      replace hx1 := cell_keeps HB.out hx1
      have EK : Aside0 ((l1.take (kk + 1)).map (fun k => k.f0) = (l1.take kk).map (fun k => k.f0) ++ [l1[kk].f0]) := ⟨by
        rw [List.take_add_one, List.getElem?_eq_getElem hlt', List.map_append]; rfl⟩
      generalize l1[kk] = x at hx0 hx1 EK
      obtain ⟨col, desc⟩ := x
      dsimp only at hx0 hx1 EK
      clear hlt'
      go_wp2_with (at_builtin; refine append_int rfl _ _ rfl _ _ col rfl (by first | (go_simp; done) | (go_simp; rfl)) (Kd.R_alloc HO.out _) (below_alloc HB.out _).size (by have := HM.out; omega) ?_; intro v2 w2 ho2 hb2; have HO2 := Aside0.mk ho2; have HB2 := Aside0.mk ((below_alloc HB.out _).trans hb2); clear ho2 hb2)
      go_roundg (n - (kk + 1))
      case measure => omega
      case rel =>
        refine ⟨kk + 1, by omega, by omega, by go_num, HB2, ⟨?_⟩⟩
        rw [EK.out]
        exact HO2.out
    · have hltz : decide (kk < n) = false := by simpa using hlt
      have HM2 : Aside0 (m = (l1.map fun k => k.f0).length) := ⟨by rw [hm, List.take_of_length_le (by have := HN.out; omega)]⟩
      have HO2 : Aside0 (Kd.C (Kd.int .i64) wr Ao (l1.map fun k => k.f0).length (l1.map fun k => k.f0) ∧ (l1.map fun k => k.f0).length ≤ co) := ⟨by
        have h9 := HO.out
        rw [List.take_of_length_le (by have := HN.out; omega)] at h9
        have h8 := Kd.R_reads' h9
        exact ⟨h8.2.2, by have := h8.1; have := h8.2.1; omega⟩⟩
      have HPC := Aside0.mk (HPL.out wr HB.out Ao co HO2.out.1 HO2.out.2)
      rw [← HM2.out] at HPC
      clear hlt HO hm HO2 HPL
      cases hpb : placesB l0 (l1.map fun k => k.f0) with
      | false =>
        have h := H.out
        rw [hpb, if_neg (by decide)] at h
        simp only [Option.some.injEq, Prod.mk.injEq] at h
        obtain ⟨rfl, rfl⟩ := h
        rw [hpb] at HPC
        clear H hpb
        go_wp2_with (go_at_call 58; refine HPC.out.mono ?_; rintro e w' ⟨rfl, hb'⟩; have HB' := Aside0.mk (below_step HB.out hb'); clear hb')
        go_ret2
        exact ⟨_, rfl, Kd.S_nil _ _ _ _ _, HB'.out⟩
      | true =>
        have h := H.out
        rw [hpb, if_pos rfl] at h
        simp only [Option.some.injEq, Prod.mk.injEq] at h
        obtain ⟨rfl, rfl⟩ := h
        rw [hpb] at HPC
        have HPB := Aside0.mk hpb
        clear H hpb
        go_wp2_with (first
          | (go_at_call 58; refine HPC.out.mono ?_; rintro e w2 ⟨rfl, hb2⟩; have HB2 := Aside0.mk (below_step HB.out hb2); clear hb2)
          | (go_at_call 59; refine (HCP.out _ HB2.out).mono ?_; rintro e w3 ⟨v3, rfl, hv3, hb3⟩; have HV3 := Aside0.mk (Kd.S_lower hv3 HB2.out.size); have HB3 := Aside0.mk (below_step HB2.out hb3); clear hv3 hb3)
          | (go_at_call 61; refine (byFn.calls _ _ _ _).mono ?_; rintro e w4 ⟨rfl, rfl⟩)
          | (go_at_call 60; rw [HN.out]; refine (sortKeys.calls w3.heap.size A1 c1 l1 _ _ w _ (below_alloc HB3.out _) (blk_new w3 _) HR1.out (Kd.S_alloc HV3.out _) HOK.out.1 HOK.out.2 HPB.out).mono ?_; rintro e w5 ⟨rfl, hv5, _, hb5⟩; have HV5 := Aside0.mk hv5; have HB5 := Aside0.mk (hb5 w.heap.size w (Nat.le_refl _) (below_alloc HB3.out _) (below_alloc HB3.out _).size); clear hv5 hb5))
        go_ret2
        exact ⟨_, rfl, HV5.out, HB5.out⟩
-- NOT PRINTED: function 147 (abi_NoEscape)
-- NOT PRINTED: function 116 (strings_Builder_copyCheck)
-- NOT PRINTED: function 77 (strings_Builder_WriteString)
-- NOT PRINTED: function 81 (strings_Builder_String)
-- NOT PRINTED: function 177 (bytealg_MakeNoZero)
-- NOT PRINTED: function 164 (strings_Builder_grow)
-- NOT PRINTED: function 150 (strings_Builder_Grow)
-- NOT PRINTED: function 118 (strings_Join)
/-! ### rows_Written: function 78 -/
section
variable {ops : Array Oper} {rest : List Oper} {o : Oper} {a : Act} {Q : Exit → Act → World → Prop}
theorem append_str {W : World} {base : Nat} (hgd : o.guard = none) (s x : Operand) (ho : o.op = .call { callee := .builtin .append, args := #[s, x], argTypes := #[133, 133] })
    (v : Value) (xs : List ByteArray) (p : ByteArray) (hs : a.eval s = v) (hx : a.eval x = .slice (some ⟨W.heap.size, 0, none⟩) 1 1)
    (HO : Kd.R Kd.string 9 W base (fun _ => True) v xs) (hbase : base ≤ W.heap.size) (hl : xs.length ≤ 5000000)
    (h : ∀ v1 w1, Kd.R Kd.string 9 w1 base (fun _ => True) v1 (xs ++ [p]) → Below base W w1 → wpList Tryz.prog ops Q rest (a.put o.dst v1) w1) :
    wpList Tryz.prog ops Q (o :: rest) a (W.alloc (.cells #[.string p] 9)) := by
  refine Kd.R_append Kd.string (w0 := W) base hgd s x 133 9 (.string ⟨#[]⟩) 16 ho Tryz.underlying133 (by kernel_rfl) rfl (by decide) (by omega) v xs p [.string p] (fun _ => True) (fun _ => False) hs hx rfl (fun _ hk => hk.elim) (fun _ _ => trivial) HO (Below.refl _ _) hbase (by omega) (fun v1 w1 h1 h2 _ _ => h v1 w1 h1 h2)
theorem join_none.calls (sep : ByteArray) (w : World) : Calls Tryz.prog 118 #[.slice none 0 0, .string sep] w fun e w' => e = .returned (.string ⟨#[]⟩) ∧ w' = w := by
  go_enter Tryz.func118, Tryz.ntmps118
  go_wp2
  go_ret
  exact ⟨rfl, rfl⟩
theorem joinAny.calls (v : Value) (xs : List ByteArray) (sep : ByteArray) (w : World) (base : Nat) (h : Kd.R Kd.string 9 w base (fun _ => True) v xs) (hl : xs.length ≤ 1000000) (hj : (Lib.join (xs.map (·.data.toList)) sep.data.toList).length ≤ 140737488355328) :
    Calls Tryz.prog 118 #[v, .string sep] w fun e w' => e = .returned (.string (ofL (Lib.join (xs.map (·.data.toList)) sep.data.toList))) ∧ Below w.heap.size w w' := by
  cases xs with
  | nil =>
    obtain ⟨A, c, rfl⟩ := Kd.R_slice h
    cases A with
    | none =>
      have hc : c = 0 := by
        obtain ⟨_, inner, ho, _⟩ := h
        rcases ho.2 with ⟨he, _⟩ | ⟨g, cap, cur, he, _⟩
        · injection he
        · cases he
      subst hc
      refine (join_none.calls sep w).mono ?_
      rintro e w' ⟨rfl, rfl⟩
      exact ⟨by rw [List.map_nil, Lib.join_nil]; rfl, Below.refl _ _⟩
    | some ad =>
      obtain ⟨g, rfl⟩ := Kd.R_head h
      have hg : g < w.heap.size := Kd.R_lt h g rfl
      exact Tryz.strings_Join g 0 c [] sep w (fun j x hx => by simp at hx) hg (by decide) (Nat.zero_le _) hj
  | cons x xr =>
    obtain ⟨g, cap, rfl, _, hg, _⟩ := Kd.R_form h (by simp)
    have hr := Kd.R_reads' h
    refine Tryz.strings_Join g 0 cap (x :: xr) sep w (fun j y hy => ?_) hg (by omega) hr.2.1 hj
    have hc := Kd.reads_of_C (d := ⟨#[]⟩) hr.2.2
    obtain ⟨ad, e, h2⟩ := hc.2.2 (by simp)
    injection e with e
    have hjl := (List.getElem?_eq_some_iff.1 hy).1
    have h3 := h2 j hjl
    rw [← e, add_at, List.getD_eq_getElem?_getD, hy] at h3
    exact h3
end
def rows_Written.f (l0 : List V) : Option ByteArray := if okRow l0 = true then some (ofL (rowL l0)) else none
set_option maxRecDepth 100000 in
set_option maxHeartbeats 2000000 in
theorem rows_Written.calls (A0 : Option Addr) (c0 : Nat) (l0 : List V) (r : ByteArray) (w : World) (hL_ : Laid w) (hr0 : Kd.C k61 w A0 l0.length l0) (_hc0 : l0.length ≤ c0) (h : rows_Written.f l0 = some r) :
    Calls Tryz.prog 78 #[.slice A0 l0.length c0] w fun e w' => e = .returned (.string r) ∧ Below w.heap.size w w' := by
  unfold rows_Written.f at h
  by_cases hs : okRow l0 = true
  case neg => rw [if_neg hs] at h; cases h
  rw [if_pos hs] at h
  obtain rfl := Option.some.inj h
  have hu61 := Tryz.underlying61
  have HLD := Aside0.mk hL_
  have HR0 := Aside0.mk hr0
  have HS := Aside0.mk (okRow_spec hs)
  have HJ := Aside0.mk (rowL_len hs).1
  clear h hs hL_ hr0
  obtain ⟨n, hn⟩ : ∃ n, n = l0.length := ⟨_, rfl⟩
  rw [← hn]
  have hle : n ≤ 1000 := by have := HS.out.1; omega
  have HN := Aside0.mk hn
  clear hn
  obtain ⟨res, hres⟩ : ∃ res, res = ofL (rowL l0) := ⟨_, rfl⟩
  rw [← hres]
  have HRES := Aside0.mk hres
  clear hres
  go_enter Tryz.func78, Tryz.ntmps78
  go_wp2
  go_loopg [3, 5, 8] n (fun gg s3 _ s8 wr => ∃ kk : Nat, kk ≤ n ∧ n - kk ≤ gg ∧ s8 = .int .i64 kk ∧ Aside0 (Below w.heap.size w wr) ∧ Aside0 (Kd.R Kd.string 9 wr w.heap.size (fun _ => True) s3 ((l0.take kk).map fun v => ofL (wrL v))))
  case atStart => exact ⟨0, Nat.zero_le _, by omega, rfl, ⟨Below.refl _ _⟩, ⟨Kd.R_nil _ _ _ _ _⟩⟩
  case round =>
    obtain ⟨kk, hkk, hg, rfl, HB, HO⟩ := hrel
    obtain ⟨Ao, co, eo⟩ := Kd.R_slice HO.out
    subst eo
    obtain ⟨m, hm⟩ : ∃ m, m = ((l0.take kk).map fun v => ofL (wrL v)).length := ⟨_, rfl⟩
    rw [← hm] at HO ⊢
    have HM : Aside0 (((l0.take kk).map fun v => ofL (wrL v)).length ≤ 1000) := ⟨by rw [List.length_map, List.length_take]; omega⟩
    clear hm
    by_cases hlt : kk < n
    · have hltz : (kk : Int) < (n : Int) := by omega
      have hlt' : kk < l0.length := by have := HN.out; omega
      obtain ⟨ad, e1, hx0, hx1, hx2⟩ := at_T61 HR0.out (kk : Int) (by omega) (by omega)
      cases e1
      rw [rd_at _ _ hlt'] at hx0 hx1 hx2
      simp only [Int.toNat_natCast] at hx0 hx1 hx2
      replace hx0 := cell_keeps HB.out hx0
      replace hx1 := cell_keeps HB.out hx1
      replace hx2 := cell_keeps HB.out hx2
      have hok := HS.out.2 l0[kk] (List.getElem_mem hlt')
      have EK : Aside0 ((l0.take (kk + 1)).map (fun v => ofL (wrL v)) = (l0.take kk).map (fun v => ofL (wrL v)) ++ [ofL (wrL l0[kk])]) := ⟨by
        rw [List.take_add_one, List.getElem?_eq_getElem hlt', List.map_append]; rfl⟩
      generalize l0[kk] = y at hx0 hx1 hx2 hok EK
      have hcall := fun W hL => value_Written.calls y.f0 y.f1 y.f2 (ofL (wrL y)) W hL (by unfold value_Written.f; rw [if_pos (show okV y.f0 y.f1 y.f2 = true from hok)]; rfl)
      have HC := Aside0.mk hcall
      clear hok hcall hlt'
      generalize ofL (wrL y) = s at HC EK
      go_wp2_with (first
        | (go_at_call 117; refine (HC.out _ (HLD.out.below (below_alloc HB.out _))).mono ?_; rintro e w2 ⟨rfl, hb2⟩; have HB2 := Aside0.mk (below_step (below_alloc HB.out _) hb2); have HO2 := Aside0.mk (Kd.R_below HO.out (below_step (below_alloc (Below.refl _ _) _) hb2)); clear hb2)
        | (at_builtin; refine append_str rfl _ _ rfl _ _ s rfl (by first | rfl | (go_simp; done) | (go_simp; rfl)) HO2.out HB2.out.size (by have := HM.out; omega) ?_; intro v3 w3 ho3 hb3; have HO3 := Aside0.mk ho3; have HB3 := Aside0.mk (HB2.out.trans hb3); clear ho3 hb3))
      go_roundg (n - (kk + 1))
      case measure => omega
      case rel =>
        refine ⟨kk + 1, by omega, by omega, by go_num, HB3, ⟨?_⟩⟩
        rw [EK.out]
        exact HO3.out
    · have hltz : decide (kk < n) = false := by simpa using hlt
      have HO2 : Aside0 (Kd.R Kd.string 9 wr w.heap.size (fun _ => True) (.slice Ao m co) (l0.map fun v => ofL (wrL v))) := ⟨by
        have h9 := HO.out
        rw [List.take_of_length_le (by have := HN.out; omega)] at h9
        exact h9⟩
      have hmm : (l0.map fun v => ofL (wrL v)).map (·.data.toList) = l0.map wrL := by rw [List.map_map]; rfl
      have hcall := joinAny.calls _ _ ⟨#[44, 32]⟩ wr _ HO2.out (by rw [List.length_map]; have := HS.out.1; omega) (by rw [hmm]; have := HJ.out; show (Lib.join (l0.map wrL) [44, 32]).length ≤ _; omega)
      rw [hmm, show (⟨#[44, 32]⟩ : ByteArray).data.toList = [44, 32] from rfl] at hcall
      have HC := Aside0.mk hcall
      have HE : Aside0 (res = (⟨#[40]⟩ : ByteArray) ++ ofL (Lib.join (l0.map wrL) [44, 32]) ++ (⟨#[41]⟩ : ByteArray)) := ⟨by
        rw [HRES.out]
        refine ba_ext ?_
        rw [ByteArray.data_append, ByteArray.data_append, Array.toList_append, Array.toList_append]
        rfl⟩
      have hsz : (ofL (Lib.join (l0.map wrL) [44, 32])).size ≤ 404000 := by rw [ofL_size]; exact HJ.out
      clear hcall hlt HO HO2 hmm
      generalize ofL (Lib.join (l0.map wrL) [44, 32]) = j at HC HE hsz
      have h1 : 1 + j.size ≤ 9223372036854775807 := by omega
      have h2 : 1 + j.size + 1 ≤ 9223372036854775807 := by omega
      have h3 : ((⟨#[40]⟩ : ByteArray) ++ j).size + 1 ≤ 9223372036854775807 := by rw [ByteArray.size_append]; exact h2
      clear hsz
      go_wp2_with (go_at_call 118; refine HC.out.mono ?_; rintro e w' ⟨rfl, hb'⟩)
      go_ret
      exact ⟨by rw [HE.out]; rfl, below_step HB.out hb'⟩
def rows_String.f (l0 : List (List V)) : Option (ByteArray × Int) := if smallE [l0] = 0 then (if okRR l0 = true then (if (strR l0).length ≤ 20000 then some (ofL (strR l0), 0) else some (⟨#[]⟩, 2)) else none) else some (⟨#[]⟩, smallE [l0])
set_option maxRecDepth 100000 in
set_option maxHeartbeats 2000000 in
theorem rows_String.calls (A0 : Option Addr) (c0 : Nat) (l0 : List (List V)) (r1 : ByteArray) (r2 : Int) (w : World) (hr0 : Kd.C (Kd.slice 61 k61) w A0 l0.length l0) (hc0 : l0.length ≤ c0) (hL_ : Laid w) (h : rows_String.f l0 = some (r1, r2)) :
  Calls Tryz.prog 48 #[.slice A0 l0.length c0] w fun e w' => e = .returned (.tuple #[.string r1, .int .i64 r2]) ∧ Below w.heap.size w w' := by
 unfold rows_String.f at h
 have HSM := Aside0.mk (fun W hb => small_one A0 c0 l0 w W hr0 hc0 hb)
 by_cases hs : smallE [l0] = 0
 case neg =>
  rw [if_neg hs] at h
  simp only [Option.some.injEq, Prod.mk.injEq] at h
  obtain ⟨rfl, rfl⟩ := h
  have hs2 : (smallE [l0] != 0) = true := by simpa using hs
  clear hL_ hr0 hc0 hs
  generalize smallE [l0] = x at HSM hs2 ⊢
  generalize l0.length = n0 at HSM ⊢
  go_enter Tryz.func48, Tryz.ntmps48
  go_wp2_with (go_at_call 52; refine (HSM.out _ (Below.refl _ _)).mono ?_; rintro e w1 ⟨rfl, hb1⟩)
  go_ret2
  exact ⟨rfl, hb1⟩
 rw [if_pos hs] at h
 by_cases hk : okRR l0 = true
 case neg => rw [if_neg hk] at h; cases h
 rw [if_pos hk] at h
 rw [hs] at HSM
 have HLD := Aside0.mk hL_
 have HR0 := Aside0.mk hr0
 have HS := Aside0.mk (okRR_spec hk)
 have H := Aside0.mk h
 clear h hs hk hL_ hr0 hc0
 obtain ⟨n, hn⟩ : ∃ n, n = l0.length := ⟨_, rfl⟩
 rw [← hn] at HSM ⊢
 have hle : n ≤ 1000000 := by have := HS.out.1; omega
 have HN := Aside0.mk hn
 clear hn
 go_enter Tryz.func48, Tryz.ntmps48
 go_wp2_with (go_at_call 52; refine (HSM.out _ (Below.refl _ _)).mono ?_; rintro e w1 ⟨rfl, hb1⟩; have HB1 := Aside0.mk (below_alloc hb1 (.cells #[.pointer none, .slice none 0 0] 102)); have HI1 : Aside0 (Lib.IsBuilder 102 5 w1.heap.size w1.heap.size (Lib.byteCells (strR (l0.take 0))) (w1.alloc (.cells #[.pointer none, .slice none 0 0] 102))) := ⟨Lib.fresh_isBuilder _ _ w1⟩; have HW1 := Aside0.mk hb1.size; clear hb1)
 generalize w1.alloc (.cells #[.pointer none, .slice none 0 0] 102) = ws at HI1 HB1 ⊢
 generalize w1.heap.size = bb at HI1 HW1 ⊢
 have HBS : Aside0 (bb ≤ ws.heap.size) := ⟨by
  rcases HI1.out with h9 | h9
  ·exact Nat.le_of_lt h9.lt
  ·exact Nat.le_of_lt h9.lt⟩
 go_loopg [7, 16] n (fun gg _ s16 wr => ∃ kk : Nat, kk ≤ n ∧ n - kk ≤ gg ∧ s16 = .int .i64 kk ∧ Aside0 (Below w.heap.size w wr) ∧ Aside0 (Lib.IsBuilder 102 5 bb bb (Lib.byteCells (strR (l0.take kk))) wr) ∧ Aside0 (bb ≤ wr.heap.size))
 case atStart => exact ⟨0, Nat.zero_le _, by omega, rfl, HB1, HI1, HBS⟩
 case round =>
  clear HB1 HI1 HBS HSM
  obtain ⟨kk, hkk, hg, rfl, HB, HI, HBS⟩ := hrel
  by_cases hlt : kk < n
  ·have hltz : (kk : Int) < (n : Int) := by omega
   have hlt' : kk < l0.length := by have := HN.out; omega
   obtain ⟨ad, e1, hcs⟩ := HR0.out.2.2 (by omega)
   cases e1
   obtain ⟨cs, hcs1, ⟨A1, c1, rfl, hle1, hC1⟩, hcs3⟩ := hcs kk l0[kk] (List.getElem?_eq_getElem hlt')
   have hx0 : w.cell? (ad.add kk) = some (.slice A1 l0[kk].length c1) := by
    have h9 := hcs3 0 _ rfl
    rw [show kk * (Kd.slice 61 k61).sz + 0 = kk from Nat.mul_one kk] at h9
    exact h9
   replace hx0 := cell_keeps HB.out hx0
   have hrow := HS.out.2 l0[kk] (List.getElem_mem hlt')
   have htk : strR (l0.take (kk + 1)) = strR (l0.take kk) ++ (rowL l0[kk] ++ [10]) := by
    rw [List.take_add_one, List.getElem?_eq_getElem hlt']; exact strR_snoc _ _
   have hlen : (strR (l0.take kk)).length ≤ kk * 404003 := by
    have := strR_len (l0.take kk) (fun v hv => HS.out.2 v (List.mem_of_mem_take hv))
    rw [List.length_take] at this
    exact Nat.le_trans this (Nat.mul_le_mul_right _ (Nat.min_le_left _ _))
   have hwl := (rowL_len hrow).2
   have hcall := rows_Written.calls A1 c1 l0[kk] (ofL (rowL l0[kk])) wr (HLD.out.below HB.out) (Kd.C_below hC1 HB.out) hle1 (by unfold rows_Written.f; rw [if_pos hrow])
   clear hcs3 hcs1 hcs hC1 hle1
   generalize l0[kk] = y at hx0 hrow htk hcall hwl
   have hsz : (ofL (rowL y)).size = (rowL y).length := ofL_size _
   have hsc : Lib.strCells (ofL (rowL y)) = Lib.byteCells (rowL y) := rfl
   have HC := Aside0.mk hcall
   have HT := Aside0.mk htk
   have HL := Aside0.mk (And.intro hlen (And.intro hwl hsz))
   have HSC := Aside0.mk hsc
   clear hrow htk hlen hwl hcall hsz hsc hlt'
   generalize ofL (rowL y) = s at HC HL HSC
   generalize y.length = ylen at hx0 HC
   go_wp2_with (go_at_call 78; refine HC.out.mono ?_; rintro e w2 ⟨rfl, hb2⟩; have HB2 := Aside0.mk (below_step HB.out hb2); have HI2 := Aside0.mk (builder_below HI.out hb2); have HS2 := Aside0.mk (Nat.le_trans HBS.out hb2.size); clear hb2)
   go_at_call 77
   refine (builder_write _ _ _ _ _ HI2.out (by rw [Lib.byteCells_length]; have := HL.out; omega) HS2.out).mono ?_
   rintro e w3 ⟨rfl, hi3, hb3⟩
   have HB3 := Aside0.mk (HB2.out.trans (hb3.mono HW1.out))
   have HS3 := Aside0.mk hb3.size
   have HI3 := Aside0.mk hi3
   clear hi3 hb3
   go_wp2_with (go_at_call 79; refine (builder_byte _ _ _ _ _ HI3.out (by rw [List.length_append, Lib.byteCells_length, Lib.strCells_length]; have := HL.out; omega) (Nat.le_trans HS2.out HS3.out)).mono ?_; rintro e w4 ⟨rfl, hi4, hb4⟩; have HB4 := Aside0.mk (HB3.out.trans (hb4.mono HW1.out)); have HS4 := Aside0.mk hb4.size; have HI4 := Aside0.mk hi4; clear hi4 hb4)
   go_roundg (n - (kk + 1))
   case measure => omega
   case rel =>
    refine ⟨kk + 1, by omega, by omega, by go_num, HB4, ⟨?_⟩, ⟨Nat.le_trans HS2.out (Nat.le_trans HS3.out HS4.out)⟩⟩
    rw [HT.out, Lib.byteCells_append, Lib.byteCells_append, ← HSC.out, ← List.append_assoc]
    exact HI4.out
  ·have hltz : decide (kk < n) = false := by simpa using hlt
   have HI2 : Aside0 (Lib.IsBuilder 102 5 bb bb (Lib.byteCells (strR l0)) wr) := ⟨by
    have h9 := HI.out
    rw [List.take_of_length_le (by have := HN.out; omega)] at h9
    exact h9⟩
   have HLN := Aside0.mk (fun W (h9 : Lib.IsBuilder 102 5 bb bb (Lib.byteCells (strR l0)) W) => Tryz.Builder_Len _ _ _ W h9)
   rw [Lib.byteCells_length] at HLN
   have hbd : (strR l0).length ≤ 1000000 * 404003 := Nat.le_trans (strR_len l0 HS.out.2) (Nat.mul_le_mul_right _ (by have := HN.out; omega))
   clear hlt HI
   by_cases hz : (strR l0).length ≤ 20000
   ·have h := H.out
    rw [if_pos hz] at h
    simp only [Option.some.injEq, Prod.mk.injEq] at h
    obtain ⟨rfl, rfl⟩ := h
    have hz2 : ¬ (20000 : Int) < ((strR l0).length : Int) := by omega
    clear H
    generalize (strR l0).length = ln at HLN hbd hz hz2
    go_wp2_with (first
     | (go_at_call 80; refine (HLN.out _ HI2.out).mono ?_; rintro e w2 ⟨rfl, rfl⟩)
     | (go_at_call 81; refine (Tryz.Builder_String_any _ _ _ _ HI2.out HBS.out).mono ?_; rintro e w3 ⟨rfl, hb3⟩; have HB3 := Aside0.mk (HB.out.trans (hb3.mono HW1.out)); clear hb3))
    go_ret2
    exact ⟨rfl, HB3.out⟩
   ·have h := H.out
    rw [if_neg hz] at h
    simp only [Option.some.injEq, Prod.mk.injEq] at h
    obtain ⟨rfl, rfl⟩ := h
    have hz2 : (20000 : Int) < ((strR l0).length : Int) := by omega
    clear H
    generalize (strR l0).length = ln at HLN hbd hz hz2
    go_wp2_with (go_at_call 80; refine (HLN.out _ HI2.out).mono ?_; rintro e w2 ⟨rfl, rfl⟩)
    go_ret2
    exact ⟨rfl, HB.out⟩
end Go.Proofs.YtmhobbdedmjmnaaGreatDoor.Q
end
section
/- Each function reached is shown to return what the plain function beside it computes, wherever that is defined (written by a program of ours for this seat). -/
namespace Go.Proofs.YtmhobbdedmjmnaaGreatDoor.Q
open Go.RowKit Go.Proofs.YtmhobbdedmjmnaaGreatDoorW.PrintWords Go.Proofs.YtmhobbdedmjmnaaGreatDoorW.PrintLast Go.Proofs.YtmhobbdedmjmnaaGreatDoorW.PrintMore
attribute [local go_sem] max2_int min2_int max_two min_two max_three min_three max_four min_four   -- for this text's walks alone
set_option linter.unusedVariables false
set_option linter.unusedSimpArgs false
end Go.Proofs.YtmhobbdedmjmnaaGreatDoor.Q
end
section
/- Each function reached is shown to return what the plain function beside it computes, wherever that is defined (written by a program of ours for this seat). -/
namespace Go.Proofs.YtmhobbdedmjmnaaGreatDoor.Q
open Go.RowKit Go.Proofs.YtmhobbdedmjmnaaGreatDoorW.PrintWords Go.Proofs.YtmhobbdedmjmnaaGreatDoorW.PrintLast Go.Proofs.YtmhobbdedmjmnaaGreatDoorW.PrintMore
attribute [local go_sem] max2_int min2_int max_two min_two max_three min_three max_four min_four   -- for this text's walks alone
set_option linter.unusedVariables false
set_option linter.unusedSimpArgs false
end Go.Proofs.YtmhobbdedmjmnaaGreatDoor.Q
end
section
/- Each function reached is shown to return what the plain function beside it computes, wherever that is defined (written by a program of ours for this seat). -/
namespace Go.Proofs.YtmhobbdedmjmnaaGreatDoor.Q
open Go.RowKit Go.Proofs.YtmhobbdedmjmnaaGreatDoorW.PrintWords Go.Proofs.YtmhobbdedmjmnaaGreatDoorW.PrintLast Go.Proofs.YtmhobbdedmjmnaaGreatDoorW.PrintMore
attribute [local go_sem] max2_int min2_int max_two min_two max_three min_three max_four min_four   -- for this text's walks alone
set_option linter.unusedVariables false
set_option linter.unusedSimpArgs false
end Go.Proofs.YtmhobbdedmjmnaaGreatDoor.Q
end
section
/- Each function reached is shown to return what the plain function beside it computes, wherever that is defined (written by a program of ours for this seat). -/
namespace Go.Proofs.YtmhobbdedmjmnaaGreatDoor.Q
open Go.RowKit Go.Proofs.YtmhobbdedmjmnaaGreatDoorW.PrintWords Go.Proofs.YtmhobbdedmjmnaaGreatDoorW.PrintLast Go.Proofs.YtmhobbdedmjmnaaGreatDoorW.PrintMore
attribute [local go_sem] max2_int min2_int max_two min_two max_three min_three max_four min_four   -- for this text's walks alone
set_option linter.unusedVariables false
set_option linter.unusedSimpArgs false
end Go.Proofs.YtmhobbdedmjmnaaGreatDoor.Q
end
section
/- What the plain definitions on rows answer: rows ordered by keys, each once; no program in sight. -/
namespace Go.Proofs.YtmhobbdedmjmnaaGreatDoor
open Go.RowKit Go.Proofs.YtmhobbdedmjmnaaGreatDoor.Q Go.Proofs.YtmhobbdedmjmnaaGreatDoorW.PrintWords Go.Proofs.YtmhobbdedmjmnaaGreatDoorW.PrintLast Go.Proofs.YtmhobbdedmjmnaaGreatDoorW.PrintMore
/-- keys that name places of every row -/
def KeysIn (ks : List KK) (l : List (List V)) : Prop := ks.length ≤ 1000 ∧ ∀ k ∈ ks, ∀ r ∈ l, 0 ≤ k.f0 ∧ k.f0 < r.length
theorem RowsOk.sub {n m : Nat} {l r : List (List V)} (h : RowsOk n l) (hs : ∀ x ∈ r, x ∈ l) (hl : r.length ≤ m) : RowsOk m r := ⟨hl, fun x hx => h.2 x (hs x hx)⟩
theorem KeysIn.sub {ks : List KK} {l r : List (List V)} (h : KeysIn ks l) (hs : ∀ x ∈ r, x ∈ l) : KeysIn ks r := ⟨h.1, fun k hk x hx => h.2 k hk x (hs x hx)⟩
theorem canR_ok {n : Nat} {l : List (List V)} (h : RowsOk n l) : RowsOk n (canR l) := h.sub (fun _ hx => sortBy_mem.1 hx) (by unfold canR; rw [sortBy_length]; exact h.1)
end Go.Proofs.YtmhobbdedmjmnaaGreatDoor
end
section
/- Each function reached is shown to return what the plain function beside it computes, wherever that is defined (written by a program of ours for this seat). -/
namespace Go.Proofs.YtmhobbdedmjmnaaGreatDoor.Q
open Go.RowKit Go.Proofs.YtmhobbdedmjmnaaGreatDoorW.PrintWords Go.Proofs.YtmhobbdedmjmnaaGreatDoorW.PrintLast Go.Proofs.YtmhobbdedmjmnaaGreatDoorW.PrintMore
attribute [local go_sem] max2_int min2_int max_two min_two max_three min_three max_four min_four   -- for this text's walks alone
set_option linter.unusedVariables false
set_option linter.unusedSimpArgs false
end Go.Proofs.YtmhobbdedmjmnaaGreatDoor.Q
end
section
/- Each function reached is shown to return what the plain function beside it computes, wherever that is defined (written by a program of ours for this seat). -/
namespace Go.Proofs.YtmhobbdedmjmnaaGreatDoor.Q
open Go.RowKit Go.Proofs.YtmhobbdedmjmnaaGreatDoorW.PrintWords Go.Proofs.YtmhobbdedmjmnaaGreatDoorW.PrintLast Go.Proofs.YtmhobbdedmjmnaaGreatDoorW.PrintMore
attribute [local go_sem] max2_int min2_int max_two min_two max_three min_three max_four min_four   -- for this text's walks alone
set_option linter.unusedVariables false
set_option linter.unusedSimpArgs false
end Go.Proofs.YtmhobbdedmjmnaaGreatDoor.Q
end
section
/- What the plain definitions on rows answer: in both lists, and what is left of one; no program in sight. -/
end
section
/- What the arguments of the laws on rows are, cut short; what is wrong with them; in plain words. -/
namespace Go.Proofs.YtmhobbdedmjmnaaGreatDoor
open Go.RowKit Go.Proofs.YtmhobbdedmjmnaaGreatDoor.Q Go.Proofs.YtmhobbdedmjmnaaGreatDoorW.PrintWords Go.Proofs.YtmhobbdedmjmnaaGreatDoorW.PrintLast Go.Proofs.YtmhobbdedmjmnaaGreatDoorW.PrintMore
/-- a row, rows that come in -/
def argRow (x : List V) : Prop := x.length * 32 ≤ 140737488351232 ∧ x.length ≤ maxLen ∧ ∀ xx ∈ x, (Lit.int .i64 xx.f0).wf = true ∧ (Lit.int .i64 xx.f1).wf = true ∧ xx.f2.size ≤ 140737488351232
def argRows (l : List (List V)) : Prop := l.length * 24 ≤ 140737488351232 ∧ l.length ≤ maxLen ∧ ∀ x ∈ l, argRow x
theorem RowsOk.grow {n m : Nat} {l : List (List V)} (h : RowsOk n l) (hn : n ≤ m) : RowsOk m l := h.sub (fun _ h => h) (Nat.le_trans h.1 hn)
theorem okR_of {n : Nat} {a : List (List V)} (ha : RowsOk n a) (hn : n ≤ 100000) : okR a = true := okR_mk (by have := ha.1; omega) fun r hr => by have := (ha.2 r hr).1; omega
end Go.Proofs.YtmhobbdedmjmnaaGreatDoor
end
section
/- A slice that is made, a cell that is set: the count of draws does not fall. -/
namespace Go.Proofs.YtmhobbdedmjmnaaGreatDoor
open Go.RowKit Go.Proofs.YtmhobbdedmjmnaaGreatDoor.Q Go.Proofs.YtmhobbdedmjmnaaGreatDoorW.PrintWords Go.Proofs.YtmhobbdedmjmnaaGreatDoorW.PrintLast Go.Proofs.YtmhobbdedmjmnaaGreatDoorW.PrintMore
theorem BelowD.cell {B : Nat} {w w' : World} (h : BelowD B w w') {p : Addr} (hp : p.block < B) : w'.cell? p = w.cell? p := h.b.cell hp
section
variable {P : Program} {ops : Array Oper} {rest : List Oper} {o : Oper} {a : Act} {Q : Exit → Act → World → Prop}
theorem setD {w W : World} {g j : Nat} {v : Value} (h : BelowD w.heap.size w W) (hg : w.heap.size ≤ g) : BelowD w.heap.size w (W.setCell ⟨g, j, none⟩ v) := ⟨below_set h.b hg, h.d⟩
theorem makeD {α : Type} (d : Kd α) {W : World} (base e : Nat) (hgd : o.guard = none) {N : Tmp} (_hd : o.dst = some N) (t : TypeId) (x y : Operand) (ho : o.op = .makeSlice t x y) (n : Int) (hx : a.eval x = .int .i64 n) (hy : a.eval y = .int .i64 n)
    (ht : P.underlying t = some (.slice e)) (z : Value) (bytes : Nat) (hinfo : (P.info? e).map (fun i => (i.zero, i.size, i.bytes)) = some (some z, d.sz, bytes)) (hz : z.cells.size = d.sz) (hs0 : 0 < d.sz) (hb0 : 0 < bytes)
    (z0 : α) {ok okp : Nat → Prop} (hzero : d.M W base okp z0 z.cells.toList) (hok : ∀ k, okp k → ok k) (hfresh : ok W.heap.size) (h0 : 0 ≤ n) (hl : n.toNat * bytes ≤ 281474976710656) (HB : BelowD W.heap.size W W) (hbase : base ≤ W.heap.size)
    (h : ∀ v1 w1, d.R e w1 base ok v1 (List.replicate n.toNat z0) → BelowD W.heap.size W w1 → W.grownBy w1 none → (∃ b, v1.ownBlock = some b ∧ W.heap.size ≤ b) → wpList P ops Q rest (a.put o.dst v1) w1) : wpList P ops Q (o :: rest) a W := by
  obtain ⟨m, rfl⟩ := Int.eq_ofNat_of_zero_le h0
  simp only [Int.toNat_natCast] at hl h
  obtain ⟨i0, hi, hzz⟩ := Option.map_eq_some_iff.1 hinfo
  simp only [Prod.mk.injEq] at hzz
  obtain ⟨hz0, hz1, hz2⟩ := hzz
  have hm : m ≤ 281474976710656 := Nat.le_trans (Nat.le_mul_of_pos_right _ hb0) hl
  have hr := run_make (P := P) W t e i0 z ht hi hz0 .i64 .i64 (m : Int) (m : Int) (by omega) (by omega)
    (by
      have h3 : ((i0.bytes * m : Nat) : Int) ≤ 281474976710656 := by rw [hz2, Nat.mul_comm]; omega
      rwa [Int.natCast_mul] at h3) (by omega)
  simp only [Int.toNat_natCast] at hr
  rw [hz1] at hr
  have hrep := Kd.reps_made (m := m) hz hs0 hzero
  refine Kd.event_run hgd (v := .slice (some ⟨W.heap.size, 0, none⟩) m m) (w1 := W.alloc (.cells (madeCells z.cells (m * d.sz)) e)) (by simp [execOp, ho, hx, hy, hr]) ?_
  refine h _ _ ⟨fun k hk => ?_, (madeCells z.cells (m * d.sz)).toList, ?_, ?_⟩ (dA HB _) (World.grownBy_alloc W _ none) ⟨W.heap.size, by simp [Value.ownBlock], Nat.le_refl _⟩
  · have : W.heap.size = k := by simpa [Value.ownBlock] using hk
    subst this
    exact hfresh
  · have h2 := World.ownsRow_lit (base := base) (e := e) (size := d.sz) W (madeCells z.cells (m * d.sz)) m hbase (by simp [maxLen]; omega) (by simpa using hrep.1)
    simpa using h2
  · refine hrep.imp_ (fun p c hp => d.M_mono (fun k hk => ⟨hok k hk.1, fun he => ?_⟩) (Kd.M_below (d.M_bound hp) (below_alloc (Below.refl _ _) _)))
    have h3 : k = W.heap.size := by simpa [Value.ownBlock] using he
    have := hk.2.2.1
    omega
end
end Go.Proofs.YtmhobbdedmjmnaaGreatDoor
end
section
/- Each function reached is shown to return what the plain function beside it computes, wherever that is defined (written by a program of ours for this seat). -/
namespace Go.Proofs.YtmhobbdedmjmnaaGreatDoor.Q
open Go.RowKit Go.Proofs.YtmhobbdedmjmnaaGreatDoorW.PrintWords Go.Proofs.YtmhobbdedmjmnaaGreatDoorW.PrintLast Go.Proofs.YtmhobbdedmjmnaaGreatDoorW.PrintMore
attribute [local go_sem] max2_int min2_int max_two min_two max_three min_three max_four min_four   -- for this text's walks alone
set_option linter.unusedVariables false
set_option linter.unusedSimpArgs false
def rows_At.l0 : Nat → List (S61) → List (S61) → List Int → Int → Int → Option ((List (S61)))
  | 0, _, _, _, _, _ => none
  | k + 1, x0, x5, x11, x12, x13 => if x13 < x12 then (if 0 ≤ x13 then (if x13 < (x11.length : Int) then (if 0 ≤ (rd x11 x13) then (if (rd x11 x13) < (x0.length : Int) then (if x13 < (x5.length : Int) then (rows_At.l0 k x0 (x5.set (x13 : Int).toNat (⟨(rd_T61 x0 (rd x11 x13)).f0, (rd_T61 x0 (rd x11 x13)).f1, (rd_T61 x0 (rd x11 x13)).f2⟩ : S61)) x11 x12 (wrap64 (x13 + 1))) else (none)) else (none)) else (none)) else (none)) else (none)) else (some x5)
def rows_At.f (k : Nat) (l0 : List (S61)) (l1 : List Int) : Option ((List (S61))) := if 0 ≤ (l1.length : Int) then (if ((l1.length : Int) : Int).toNat ≤ 8796093022208 then (rows_At.l0 k l0 (List.replicate ((l1.length : Int) : Int).toNat z61) l1 (l1.length : Int) 0) else (none)) else (none)
set_option maxHeartbeats 8000000 in
set_option maxRecDepth 100000 in
theorem rows_At.grows (k : Nat) (A0 : Option Addr) (c0 : Nat) (l0 : List (S61)) (A1 : Option Addr) (c1 : Nat) (l1 : List Int) (r : List (S61)) (w : World) (hr0 : Kd.C k61 w A0 l0.length l0) (hc0 : l0.length ≤ c0) (hr1 : Kd.C (Kd.int .i64) w A1 l1.length l1) (hc1 : l1.length ≤ c1) (h : rows_At.f k l0 l1 = some r) :
    Calls Tryz.prog 110 #[.slice A0 l0.length c0, .slice A1 l1.length c1] w fun e w' => ∃ v0_ : Value, e = .returned (v0_) ∧ Kd.R k61 61 w' w.heap.size (fun _ => True) v0_ r ∧ BelowD w.heap.size w w' := by
  have hu61 := Tryz.underlying61
  have HR0 := Aside0.mk hr0
  have HC0 := Aside0.mk hc0
  clear hr0 hc0
  have HR1 := Aside0.mk hr1
  have HC1 := Aside0.mk hc1
  clear hr1 hc1
  have HB := Aside0.mk (BelowD.refl w.heap.size w)
  have H : (if 0 ≤ (l1.length : Int) then (if ((l1.length : Int) : Int).toNat ≤ 8796093022208 then (rows_At.l0 k l0 (List.replicate ((l1.length : Int) : Int).toNat z61) l1 (l1.length : Int) 0) else (none)) else (none)) = some r := h
  clear h
  by_cases c3 : 0 ≤ (l1.length : Int)
  · rw [if_pos c3] at H
    have c3b0 := eq_true c3
    have c3b1 : decide (0 ≤ (l1.length : Int)) = true := decide_eq_true c3
    clear c3
    by_cases c4 : ((l1.length : Int) : Int).toNat ≤ 8796093022208
    · rw [if_pos c4] at H
      have c4b0 := eq_true c4
      have c4b1 : decide (((l1.length : Int) : Int).toNat ≤ 8796093022208) = true := decide_eq_true c4
      clear c4
      obtain ⟨y466, hy466⟩ : ∃ y_ : List (S61), y_ = (List.replicate ((l1.length : Int) : Int).toNat z61) := ⟨_, rfl⟩
      replace H : (rows_At.l0 k l0 y466 l1 (l1.length : Int) 0) = some r := by first | (rw [hy466]; with_reducible exact H) | (have H2_ := (Option.bind_some _ _).symm.trans H; rw [hy466]; with_reducible exact H2_) | (have H2_ := (Option.bind_some _ _).symm.trans H; with_reducible exact H2_) | with_reducible exact H | (rw [hy466]; exact H) | exact H
      have Ny466 := Aside0.mk hy466
      clear hy466
      have H' := Aside0.mk H
      clear H
      go_enter Tryz.func110, Tryz.ntmps110
      go_wp2_with (first | ((with_reducible refine gate_dst (N := 10) rfl ?_); refine makeD k61 _ 61 rfl (N := 10) rfl 40 _ _ rfl (l1.length : Int) rfl rfl Tryz.underlying40 (.agg #[(.int .i64 0), (.int .i64 0), (.string ⟨#[]⟩)]) 32 info61 rfl (by decide) (by omega) z61 (ok := fun _ => True) (okp := fun _ => True) (k61_mkM _ _ _ z61 ) (fun _ hk => hk) trivial (of_decide_eq_true (by first | (with_reducible assumption) | assumption)) (Nat.le_trans (Nat.mul_le_mul_right _ (of_decide_eq_true (by first | (with_reducible assumption) | assumption) : (l1.length : Int).toNat ≤ 8796093022208)) (by omega)) (BelowD.refl _ _) (Nat.le_refl _) ?_; intro v467 w5 ho6 hb hg_ hnew_; clear hg_ hnew_; (first | rw [← Ny466.out] at ho6 | (simp only [Int.reduceToNat] at ho6; rw [← Ny466.out] at ho6)); have n0_ := Aside0.mk (Kd.R_lower ho6 (belowD_size (by repeat (first | (with_reducible first | exact HB.out | apply dA | apply dN | apply dD) | exact HB.out)))); have n1_ := Aside0.mk (belowD_step (by repeat (first | (with_reducible first | exact HB.out | apply dA | apply dN | apply dD) | exact HB.out)) hb); clear HB; have HO468 := n0_; have HB := n1_; clear n0_ n1_; clear hb ho6))
      go_loopg [13] k (fun kq v13 w' => ∃ (x5_1 : List (S61)) (x13_1 : Int), v13 = .int .i64 x13_1 ∧ Aside0 (rows_At.l0 kq l0 x5_1 l1 (l1.length : Int) x13_1 = some r) ∧ Aside0 (kq ≤ k) ∧ Aside0 (Kd.R k61 61 w' w.heap.size (fun _ => True) v467 x5_1) ∧ Aside0 (BelowD w.heap.size w w'))
      case atStart => exact ⟨(y466), (0), (by first | rfl | (simp; done) | (simp [*]; done)), H', ⟨Nat.le_refl _⟩, ⟨by (with_reducible repeat (first | apply Kd.R_alloc | apply Kd.R_drewN | apply Kd.R_drew)); exact HO468.out⟩, ⟨by repeat (first | (with_reducible first | exact HB.out | apply dA | apply dN | apply dD) | exact HB.out)⟩⟩
      case round =>
        clear H'
        try clear c1
        try clear p2
        try clear c3
        try clear c3b0
        try clear c3b1
        try clear c4
        try clear c4b0
        try clear c4b1
        obtain ⟨x5_1, x13_1, rfl, HA, HK1, HO_5, HB⟩ := hrel
        cases gk with
        | zero => exact absurd HA.out (by simp [rows_At.l0])
        | succ k1 =>
          have H := HA.out
          clear HA
          simp only [rows_At.l0] at H
          by_cases c7 : x13_1 < (l1.length : Int)
          · rw [if_pos c7] at H
            have c7b0 : decide (x13_1 < (l1.length : Int)) = true := decide_eq_true c7
            clear c7
            by_cases c8 : 0 ≤ x13_1
            · rw [if_pos c8] at H
              have c8b0 : decide (0 ≤ x13_1) = true := decide_eq_true c8
              clear c8
              by_cases c9 : x13_1 < (l1.length : Int)
              · rw [if_pos c9] at H
                have c9b0 : decide (x13_1 < (l1.length : Int)) = true := decide_eq_true c9
                clear c9
                by_cases c10 : 0 ≤ (rd l1 x13_1)
                · rw [if_pos c10] at H
                  have c10b0 : decide (0 ≤ (rd l1 x13_1)) = true := decide_eq_true c10
                  clear c10
                  by_cases c11 : (rd l1 x13_1) < (l0.length : Int)
                  · rw [if_pos c11] at H
                    have c11b0 : decide ((rd l1 x13_1) < (l0.length : Int)) = true := decide_eq_true c11
                    clear c11
                    by_cases c12 : x13_1 < (x5_1.length : Int)
                    · rw [if_pos c12] at H
                      have c12b0 : decide (x13_1 < (x5_1.length : Int)) = true := decide_eq_true c12
                      clear c12
                      obtain ⟨y471, hy471⟩ : ∃ y_ : List (S61), y_ = (x5_1.set (x13_1 : Int).toNat (⟨(rd_T61 l0 (rd l1 x13_1)).f0, (rd_T61 l0 (rd l1 x13_1)).f1, (rd_T61 l0 (rd l1 x13_1)).f2⟩ : S61)) := ⟨_, rfl⟩
                      replace H : (rows_At.l0 k1 l0 y471 l1 (l1.length : Int) (wrap64 (x13_1 + 1))) = some r := by first | (rw [hy471]; with_reducible exact H) | (have H2_ := (Option.bind_some _ _).symm.trans H; rw [hy471]; with_reducible exact H2_) | (have H2_ := (Option.bind_some _ _).symm.trans H; with_reducible exact H2_) | with_reducible exact H | (rw [hy471]; exact H) | exact H
                      have Ny471 := Aside0.mk hy471
                      clear hy471
                      have H' := Aside0.mk H
                      clear H
                      have p469 : 0 ≤ (x13_1 : Int) := of_decide_eq_true (by first | (with_reducible assumption) | assumption)
                      have q469 : x13_1 < (l1.length : Int) := of_decide_eq_true (by first | (with_reducible assumption) | assumption)
                      obtain ⟨ad469, e469, hx469_0⟩ := Kd.at_int HR1.out x13_1 p469 q469
                      cases e469
                      replace hx469_0 := (HB.out.cell (World.block_lt_of_cell? w _ hx469_0)).trans hx469_0
                      replace p469 := eq_true p469
                      replace q469 := eq_true q469
                      have p470 : 0 ≤ ((rd l1 x13_1) : Int) := of_decide_eq_true (by first | (with_reducible assumption) | assumption)
                      have q470 : (rd l1 x13_1) < (l0.length : Int) := of_decide_eq_true (by first | (with_reducible assumption) | assumption)
                      obtain ⟨ad470, e470, hx470_0, hx470_1, hx470_2⟩ := at_T61 HR0.out (rd l1 x13_1) p470 q470
                      cases e470
                      replace hx470_0 := (HB.out.cell (World.block_lt_of_cell? w _ hx470_0)).trans hx470_0
                      replace hx470_1 := (HB.out.cell (World.block_lt_of_cell? w _ hx470_1)).trans hx470_1
                      replace hx470_2 := (HB.out.cell (World.block_lt_of_cell? w _ hx470_2)).trans hx470_2
                      replace p470 := eq_true p470
                      replace q470 := eq_true q470
                      have p13 : 0 ≤ (x13_1 : Int) := of_decide_eq_true (by first | (with_reducible assumption) | assumption)
                      have q13 : (x13_1 : Int) < ((x5_1.length : Int) : Int) := of_decide_eq_true (by first | (with_reducible assumption) | assumption)
                      obtain ⟨go13, co13, eo13, gb13, gl13, cl13, HG13⟩ := Kd.R_form HO_5.out (by omega)
                      (first | cases eo13 | (injection eo13 with ea_ en_ ec_; (first | subst ea_ | (injection ea_ with ea_; subst ea_)); subst ec_; clear en_))
                      have GB13 := Aside0.mk gb13
                      have GG13 := Aside0.mk HG13
                      clear gb13 gl13 HG13
                      obtain ⟨ce13, hcl13, hM13, hcc13, hfr13⟩ := Kd.R_elem HO_5.out z61 (x13_1 : Int) p13 q13
                      obtain rfl := k61_openM hM13
                      have hx13_0 : wr.cell? ⟨go13, (x13_1 : Int).toNat * 3, none⟩ = some (.int .i64 ((rd_T61 x5_1 x13_1).f0)) := hcc13 0 _ rfl
                      have hx13_1 : wr.cell? ⟨go13, (x13_1 : Int).toNat * 3 + 1, none⟩ = some (.int .i64 ((rd_T61 x5_1 x13_1).f1)) := hcc13 1 _ rfl
                      have hx13_2 : wr.cell? ⟨go13, (x13_1 : Int).toNat * 3 + 2, none⟩ = some (.string ((rd_T61 x5_1 x13_1).f2)) := hcc13 2 _ rfl
                      have hf13_0 : wr.frozen? ⟨go13, (x13_1 : Int).toNat * 3, none⟩ = false := hfr13 0
                      have hf13_1 : wr.frozen? ⟨go13, (x13_1 : Int).toNat * 3 + 1, none⟩ = false := hfr13 1
                      have hf13_2 : wr.frozen? ⟨go13, (x13_1 : Int).toNat * 3 + 2, none⟩ = false := hfr13 2
                      clear hcl13 hcc13 hfr13 hM13
                      replace p13 := eq_true p13
                      replace q13 := eq_true q13
                      have HX14 := Aside0.mk (show Kd.R k61 61 wr w.heap.size (fun _ => True) (.slice (some ⟨go13, 0, none⟩) x5_1.length co13) x5_1 from (by (with_reducible repeat (first | apply Kd.R_alloc | apply Kd.R_drewN | apply Kd.R_drew)); exact HO_5.out))
                      obtain ⟨ce14, hcl14, hM14, hcc14, hfr14⟩ := Kd.R_elem HX14.out z61 (x13_1 : Int) (of_decide_eq_true (by first | (with_reducible assumption) | assumption)) (by have h_ : (x13_1 : Int) < ((x5_1.length : Int) : Int) := of_decide_eq_true (by first | (with_reducible assumption) | assumption); first | exact h_ | (have e_ := (Kd.R_reads' HO_5.out).1; omega) | simpa using h_)
                      obtain rfl := k61_openM hM14
                      have HP14 := Kd.R_seg HX14.out (x13_1 : Int) (of_decide_eq_true (by first | (with_reducible assumption) | assumption)) (by have h_ : (x13_1 : Int) < ((x5_1.length : Int) : Int) := of_decide_eq_true (by first | (with_reducible assumption) | assumption); first | exact h_ | (have e_ := (Kd.R_reads' HO_5.out).1; omega) | simpa using h_) (seg := [.int .i64 ((rd_T61 l0 (rd l1 x13_1)).f0), .int .i64 ((rd_T61 l0 (rd l1 x13_1)).f1), .string ((rd_T61 l0 (rd l1 x13_1)).f2)]) (j := 0) hcl14 hcc14 (show 3 ≤ 3 from by decide) (x' := (⟨(rd_T61 l0 (rd l1 x13_1)).f0, (rd_T61 l0 (rd l1 x13_1)).f1, (rd_T61 l0 (rd l1 x13_1)).f2⟩ : S61)) (k61_mkM _ _ _ (⟨(rd_T61 l0 (rd l1 x13_1)).f0, (rd_T61 l0 (rd l1 x13_1)).f1, (rd_T61 l0 (rd l1 x13_1)).f2⟩ : S61) ) (fun _ hk => hk)
                      have hx14_0 := hcc14 0 _ rfl
                      (try simp only [show (k61).sz = 3 from rfl, Nat.mul_one, Nat.add_zero] at hx14_0)
                      have hf14_0 := hfr14 0
                      (try simp only [show (k61).sz = 3 from rfl, Nat.mul_one, Nat.add_zero] at hf14_0)
                      have hx14_1 := hcc14 1 _ rfl
                      (try simp only [show (k61).sz = 3 from rfl, Nat.mul_one, Nat.add_zero] at hx14_1)
                      have hf14_1 := hfr14 1
                      (try simp only [show (k61).sz = 3 from rfl, Nat.mul_one, Nat.add_zero] at hf14_1)
                      have hx14_2 := hcc14 2 _ rfl
                      (try simp only [show (k61).sz = 3 from rfl, Nat.mul_one, Nat.add_zero] at hx14_2)
                      have hf14_2 := hfr14 2
                      (try simp only [show (k61).sz = 3 from rfl, Nat.mul_one, Nat.add_zero] at hf14_2)
                      clear hcl14 hcc14 hfr14 hM14
                      go_wp2_with (first | ((with_reducible refine gate_store (t := 61) (p := 24) rfl ?_); refine store_event (t := 61) (p := 24) (v := ?vo_w15) (w1 := (((wr.setCell ⟨go13, (x13_1 : Int).toNat * 3, none⟩ (.int .i64 ((rd_T61 l0 (rd l1 x13_1)).f0))).setCell ⟨go13, (x13_1 : Int).toNat * 3 + 1, none⟩ (.int .i64 ((rd_T61 l0 (rd l1 x13_1)).f1))).setCell ⟨go13, (x13_1 : Int).toNat * 3 + 2, none⟩ (.string ((rd_T61 l0 (rd l1 x13_1)).f2)))) ?hg ?ho ?hn ?hr ?_; (case ho => rfl); (case hg => rfl); (case hn => rfl); (case hr => first | (go_simp; done) | (go_simp; rfl)); intro w15 hw; have hg : wr.grownBy w15 (some go13) := (by rw [hw]; exact HP14.2); have hp_ : Kd.R k61 61 w15 w.heap.size (fun _ => True) (.slice (some ⟨go13, 0, none⟩) x5_1.length co13) y471 := (by rw [hw, Ny471.out]; exact HP14.1); clear HP14; have n0_ := Aside0.mk (hp_); have n1_ := Aside0.mk ((by rw [hw]; exact setD (setD (setD (HB.out) GB13.out) GB13.out) GB13.out : BelowD w.heap.size w w15)); clear HO_5; clear HB; have HO_5 := n0_; have HB := n1_; clear n0_ n1_; clear hg hw hp_))
                      go_roundg k1
                      case measure => have := HK1.out; omega
                      case rel => exact ⟨(y471), (wrap64 (x13_1 + 1)), (by first | rfl | (simp; done) | (simp [*]; done)), H', ⟨by have := HK1.out; omega⟩, ⟨by (with_reducible repeat (first | apply Kd.R_alloc | apply Kd.R_drewN | apply Kd.R_drew)); exact HO_5.out⟩, ⟨by repeat (first | (with_reducible first | exact HB.out | apply dA | apply dN | apply dD) | exact HB.out)⟩⟩
                    · rw [if_neg c12] at H
                      exact absurd H (by simp)
                  · rw [if_neg c11] at H
                    exact absurd H (by simp)
                · rw [if_neg c10] at H
                  exact absurd H (by simp)
              · rw [if_neg c9] at H
                exact absurd H (by simp)
            · rw [if_neg c8] at H
              exact absurd H (by simp)
          · rw [if_neg c7] at H
            have c7b0 : decide (x13_1 < (l1.length : Int)) = false := decide_eq_false c7
            clear c7
            obtain rfl := Option.some.inj H
            go_wp2
            go_ret
            exact ⟨_, by first | rfl | (simp [errW_none, errW_some] <;> rfl) | (simp [*, errW_none, errW_some] <;> rfl), by (with_reducible repeat (first | apply Kd.R_alloc | apply Kd.R_drewN | apply Kd.R_drew)); exact HO_5.out, by repeat (first | (with_reducible first | exact HB.out | apply dA | apply dN | apply dD) | exact HB.out)⟩
    · rw [if_neg c4] at H
      exact absurd H (by simp)
  · rw [if_neg c3] at H
    exact absurd H (by simp)
/-- places that are places of a row -/
def placesIn (p : List Int) (r : List V) : Bool := p.all fun c => decide (0 ≤ c) && decide (c < (r.length : Int))
theorem placesIn_spec {p : List Int} {r : List V} (h : placesIn p r = true) : ∀ c ∈ p, 0 ≤ c ∧ c < (r.length : Int) := fun c hc => by
  have h1 := (List.all_eq_true.1 h) c hc
  rw [Bool.and_eq_true] at h1
  exact ⟨of_decide_eq_true h1.1, of_decide_eq_true h1.2⟩
theorem placesIn_mk {p : List Int} {r : List V} (h : ∀ c ∈ p, 0 ≤ c ∧ c < (r.length : Int)) : placesIn p r = true := List.all_eq_true.2 fun c hc => by
  rw [decide_eq_true (h c hc).1, decide_eq_true (h c hc).2]; rfl
theorem rdI_atQ (l : List Int) (k : Nat) (h : k < l.length) : rd l (k : Int) = l[k] := by
  unfold rd
  simp [h]
theorem rows_At.l0_at (r : List V) (p : List Int) (hp : ∀ c ∈ p, 0 ≤ c ∧ c < (r.length : Int)) (hn : p.length ≤ 1000000) : ∀ (d i k : Nat), i + d = p.length → d < k →
    rows_At.l0 k r ((atP p r).take i ++ List.replicate d z61) p (p.length : Int) (i : Int) = some (atP p r) := by
  have hlen : (atP p r).length = p.length := by unfold atP; rw [List.length_map]
  intro d
  induction d with
  | zero =>
    intro i k hi hk
    obtain ⟨k, rfl⟩ : ∃ m, k = m + 1 := ⟨k - 1, by omega⟩
    rw [rows_At.l0, if_neg (by omega), List.take_of_length_le (by omega), List.replicate_zero, List.append_nil]
  | succ d ih =>
    intro i k hi hk
    obtain ⟨k, rfl⟩ : ∃ m, k = m + 1 := ⟨k - 1, by omega⟩
    have hlt : i < p.length := by omega
    have hq := hp _ (List.getElem_mem hlt)
    have htl : ((atP p r).take i).length = i := by rw [List.length_take]; omega
    have hx : (atP p r)[i]'(by omega) = atR r p[i] := by unfold atP; rw [List.getElem_map]
    have hset : ((atP p r).take i ++ List.replicate (d + 1) z61).set ((i : Int)).toNat (⟨(rd_T61 r p[i]).f0, (rd_T61 r p[i]).f1, (rd_T61 r p[i]).f2⟩ : V) = (atP p r).take (i + 1) ++ List.replicate d z61 := by
      rw [Int.toNat_natCast, List.replicate_succ, List.set_append_right _ _ (by omega), htl, Nat.sub_self, List.set_cons_zero, List.take_add_one, List.getElem?_eq_getElem (by omega), Option.toList_some, hx, List.append_assoc]
      rfl
    rw [rows_At.l0, if_pos (by omega), if_pos (by omega), if_pos (by omega), rdI_atQ p i hlt, if_pos hq.1, if_pos hq.2, if_pos (by rw [List.length_append, htl, List.length_replicate]; omega), hset, wrap_small (n := (i : Int) + 1) (by omega) (by omega), show ((i : Int) + 1) = ((i + 1 : Nat) : Int) by omega]
    exact ih (i + 1) k (by omega) (by omega)
def rows_At_s.f (l0 : List V) (l1 : List Int) : Option (List V) := if l1.length ≤ 1000000 ∧ placesIn l1 l0 = true then some (atP l1 l0) else none
theorem rows_At.at (l0 : List V) (l1 : List Int) (r : List V) (h : rows_At_s.f l0 l1 = some r) : rows_At.f (l1.length + 1) l0 l1 = some r := by
  unfold rows_At_s.f at h
  by_cases hs : l1.length ≤ 1000000 ∧ placesIn l1 l0 = true
  · rw [if_pos hs] at h
    obtain rfl := Option.some.inj h
    unfold rows_At.f
    rw [if_pos (by omega), Int.toNat_natCast, if_pos (by omega)]
    exact rows_At.l0_at l0 l1 (placesIn_spec hs.2) hs.1 l1.length 0 (l1.length + 1) (by omega) (by omega)
  · rw [if_neg hs] at h; cases h
theorem rows_At_s.grows (A0 : Option Addr) (c0 : Nat) (l0 : List V) (A1 : Option Addr) (c1 : Nat) (l1 : List Int) (r : List V) (w : World) (hr0 : Kd.C k61 w A0 l0.length l0) (hc0 : l0.length ≤ c0) (hr1 : Kd.C (Kd.int .i64) w A1 l1.length l1) (hc1 : l1.length ≤ c1) (h : rows_At_s.f l0 l1 = some r) :
  Calls Tryz.prog 110 #[.slice A0 l0.length c0, .slice A1 l1.length c1] w fun e w' => ∃ v0_ : Value, e = .returned (v0_) ∧ Kd.R k61 61 w' w.heap.size (fun _ => True) v0_ r ∧ BelowD w.heap.size w w' :=
 rows_At.grows (l1.length + 1) A0 c0 l0 A1 c1 l1 r w hr0 hc0 hr1 hc1 (rows_At.at l0 l1 r h)
end Go.Proofs.YtmhobbdedmjmnaaGreatDoor.Q
end
section
/- Each function reached is shown to return what the plain function beside it computes, wherever that is defined (written by a program of ours for this seat). -/
namespace Go.Proofs.YtmhobbdedmjmnaaGreatDoor.Q
open Go.RowKit Go.Proofs.YtmhobbdedmjmnaaGreatDoorW.PrintWords Go.Proofs.YtmhobbdedmjmnaaGreatDoorW.PrintLast Go.Proofs.YtmhobbdedmjmnaaGreatDoorW.PrintMore
attribute [local go_sem] max2_int min2_int max_two min_two max_three min_three max_four min_four   -- for this text's walks alone
set_option linter.unusedVariables false
set_option linter.unusedSimpArgs false
theorem eqA61 (d : Nat) (w : World) (x0 y0 : Int) (x1 y1 : Int) (x2 y2 : ByteArray) :
  (Op.equalIn (d + 2) 61 (.agg #[.int .i64 x0, .int .i64 x1, .string x2]) (.agg #[.int .i64 y0, .int .i64 y1, .string y2])).run Tryz.prog w = .ok (x0 == y0 && (x1 == y1 && (x2.toList == y2.toList))) w := by
 refine eqA_of Tryz.underlying61 (by kernel_rfl) ?_
 refine eqf_cons (by rfl) (by go_simp; rfl) (by go_simp; rfl) (by go_simp) ?_
 refine eqf_cons (by rfl) (by go_simp; rfl) (by go_simp; rfl) (by go_simp) ?_
 exact eqf_last (by rfl) (by go_simp; rfl) (by go_simp; rfl) (by go_simp)
end Go.Proofs.YtmhobbdedmjmnaaGreatDoor.Q
end
section
/- Each function reached is shown to return what the plain function beside it computes, wherever that is defined (written by a program of ours for this seat). -/
namespace Go.Proofs.YtmhobbdedmjmnaaGreatDoor.Q
open Go.RowKit Go.Proofs.YtmhobbdedmjmnaaGreatDoorW.PrintWords Go.Proofs.YtmhobbdedmjmnaaGreatDoorW.PrintLast Go.Proofs.YtmhobbdedmjmnaaGreatDoorW.PrintMore
attribute [local go_sem] max2_int min2_int max_two min_two max_three min_three max_four min_four   -- for this text's walks alone
set_option linter.unusedVariables false
set_option linter.unusedSimpArgs false
/-! ### rows_Compare: function 27 -/
def rows_Sorted.f (l0 : List (List V)) : Option (List (List V)) := if okR l0 = true then some (canR l0) else none
set_option maxHeartbeats 1000000 in
theorem rows_Sorted.calls (A0 : Option Addr) (c0 : Nat) (l0 : List (List V)) (r : List (List V)) (w : World) (hr0 : Kd.C (Kd.slice 61 k61) w A0 l0.length l0) (hc0 : l0.length ≤ c0) (h : rows_Sorted.f l0 = some r) :
  Calls Tryz.prog 64 #[.slice A0 l0.length c0] w fun e w' => ∃ v0_ : Value, e = .returned (v0_) ∧ Kd.S (Kd.slice 61 k61) 40 w' w.heap.size (fun _ => True) v0_ r ∧ Below w.heap.size w w' := by
 unfold rows_Sorted.f at h
 by_cases hs : okR l0 = true
 case neg => rw [if_neg hs] at h; cases h
 rw [if_pos hs] at h
 obtain rfl := Option.some.inj h
 have HC := Aside0.mk (rows_Copy_s.calls A0 c0 l0 l0 w hr0 hc0 (by unfold rows_Copy_s.f; rw [if_pos hs]))
 have HS := Aside0.mk hs
 clear hr0 hc0 hs h
 generalize l0.length = n at HC ⊢
 go_enter Tryz.func64, Tryz.ntmps64
 go_wp2_with (first
  | (go_at_call 59; refine HC.out.mono ?_; rintro e w1 ⟨v1, rfl, hv1, hb1⟩; have HV1 := Aside0.mk hv1; have HB1 := Aside0.mk hb1; clear hv1 hb1)
  | (go_at_call 60; refine (sortR_can _ _ _ _ _ HV1.out HS.out).mono ?_; rintro e w2 ⟨rfl, hv2, _, hb2⟩; have HV2 := Aside0.mk hv2; have HB2 := Aside0.mk (hb2 w.heap.size w (Nat.le_refl _) HB1.out HB1.out.size); clear hv2 hb2))
 go_ret
 exact ⟨_, rfl, HV2.out, HB2.out⟩
end Go.Proofs.YtmhobbdedmjmnaaGreatDoor.Q
end
section
/- Each function reached is shown to return what the plain function beside it computes, wherever that is defined (written by a program of ours for this seat). -/
namespace Go.Proofs.YtmhobbdedmjmnaaGreatDoor.Q
open Go.RowKit Go.Proofs.YtmhobbdedmjmnaaGreatDoorW.PrintWords Go.Proofs.YtmhobbdedmjmnaaGreatDoorW.PrintLast Go.Proofs.YtmhobbdedmjmnaaGreatDoorW.PrintMore
attribute [local go_sem] max2_int min2_int max_two min_two max_three min_three max_four min_four   -- for this text's walks alone
set_option linter.unusedVariables false
set_option linter.unusedSimpArgs false
attribute [local go_sem high] eqA61
def api_Value_76.l0 : Nat → List (S61) → List (S61) → Int → Int → Option (Bool)
  | 0, _, _, _, _ => none
  | k + 1, x0, x1, x12, x13 => if x13 < x12 then (if 0 ≤ x13 then (if x13 < (x0.length : Int) then (if x13 < (x1.length : Int) then (if (!(((rd_T61 x0 x13).f0) == ((rd_T61 x1 x13).f0)) || (!(((rd_T61 x0 x13).f1) == ((rd_T61 x1 x13).f1)) || (!((((rd_T61 x0 x13).f2).toList) == (((rd_T61 x1 x13).f2).toList))))) = true then (some false) else (api_Value_76.l0 k x0 x1 x12 (wrap64 (x13 + 1)))) else (none)) else (none)) else (none)) else (some true)
def api_Value_76.f (k : Nat) (l0 : List (S61)) (l1 : List (S61)) : Option (Bool) := if (l0.length : Int) = (l1.length : Int) then (api_Value_76.l0 k l0 l1 (l0.length : Int) 0) else (some false)
set_option maxHeartbeats 8000000 in
set_option maxRecDepth 100000 in
theorem api_Value_76.calls (k : Nat) (A0 : Option Addr) (c0 : Nat) (l0 : List (S61)) (A1 : Option Addr) (c1 : Nat) (l1 : List (S61)) (r : Bool) (w : World) (hr0 : Kd.C k61 w A0 l0.length l0) (hc0 : l0.length ≤ c0) (hr1 : Kd.C k61 w A1 l1.length l1) (hc1 : l1.length ≤ c1) (h : api_Value_76.f k l0 l1 = some r) :
    Calls Tryz.prog 76 #[.slice A0 l0.length c0, .slice A1 l1.length c1] w fun e w' => e = .returned (.bool r) ∧ Drawn0 w w' := by
  have hu61 := Tryz.underlying61
  have HR0 := Aside0.mk hr0
  have HC0 := Aside0.mk hc0
  clear hr0 hc0
  have HR1 := Aside0.mk hr1
  have HC1 := Aside0.mk hc1
  clear hr1 hc1
  have H : (if (l0.length : Int) = (l1.length : Int) then (api_Value_76.l0 k l0 l1 (l0.length : Int) 0) else (some false)) = some r := h
  clear h
  by_cases c3 : (l0.length : Int) = (l1.length : Int)
  · rw [if_pos c3] at H
    have c3b0 : ((l0.length : Int) == (l1.length : Int)) = true := beq_iff_eq.mpr c3
    have c3b1 : ((l0.length : Int) != (l1.length : Int)) = false := bne_eq_false_iff_eq.mpr c3
    have c3b2 : (l0.length == l1.length) = true := by first | simpa using c3 | (simp at c3 ⊢; omega)
    clear c3
    have H' := Aside0.mk H
    clear H
    go_enter Tryz.func76, Tryz.ntmps76
    go_wp2
    repeat (go_quiet (fail); try go_wp2)
    go_loopg [13] k (fun kq v13 w' => ∃ (x13_1 : Int), v13 = .int .i64 x13_1 ∧ Aside0 (api_Value_76.l0 kq l0 l1 (l0.length : Int) x13_1 = some r) ∧ Aside0 (kq ≤ k) ∧ Drawn0 w w')
    case atStart => exact ⟨(0), (by first | rfl | (simp; done) | (simp [*]; done)), H', ⟨Nat.le_refl _⟩, by repeat (first | exact Drawn0.refl _ | apply Drawn0.step)⟩
    case round =>
      clear H'
      try clear c1
      try clear p2
      try clear c3
      try clear c3b0
      try clear c3b1
      try clear c3b2
      obtain ⟨x13_1, rfl, HA, HK1, ⟨m1, rfl⟩⟩ := hrel
      cases gk with
      | zero => exact absurd HA.out (by simp [api_Value_76.l0])
      | succ k1 =>
        have H := HA.out
        clear HA
        simp only [api_Value_76.l0] at H
        by_cases c4 : x13_1 < (l0.length : Int)
        · rw [if_pos c4] at H
          have c4b0 : decide (x13_1 < (l0.length : Int)) = true := decide_eq_true c4
          clear c4
          by_cases c5 : 0 ≤ x13_1
          · rw [if_pos c5] at H
            have c5b0 : decide (0 ≤ x13_1) = true := decide_eq_true c5
            clear c5
            by_cases c6 : x13_1 < (l0.length : Int)
            · rw [if_pos c6] at H
              have c6b0 : decide (x13_1 < (l0.length : Int)) = true := decide_eq_true c6
              clear c6
              by_cases c7 : x13_1 < (l1.length : Int)
              · rw [if_pos c7] at H
                have c7b0 : decide (x13_1 < (l1.length : Int)) = true := decide_eq_true c7
                clear c7
                by_cases c8 : (!(((rd_T61 l0 x13_1).f0) == ((rd_T61 l1 x13_1).f0)) || (!(((rd_T61 l0 x13_1).f1) == ((rd_T61 l1 x13_1).f1)) || (!((((rd_T61 l0 x13_1).f2).toList) == (((rd_T61 l1 x13_1).f2).toList))))) = true
                · rw [if_pos c8] at H
                  have c8b0 : (!(((rd_T61 l0 x13_1).f0) == ((rd_T61 l1 x13_1).f0)) || (!(((rd_T61 l0 x13_1).f1) == ((rd_T61 l1 x13_1).f1)) || (!((((rd_T61 l0 x13_1).f2).toList) == (((rd_T61 l1 x13_1).f2).toList))))) = true := c8
                  clear c8
                  obtain rfl := Option.some.inj H
                  have p415 : 0 ≤ (x13_1 : Int) := of_decide_eq_true (by first | (with_reducible assumption) | assumption)
                  have q415 : x13_1 < (l0.length : Int) := of_decide_eq_true (by first | (with_reducible assumption) | assumption)
                  obtain ⟨ad415, e415, hx415_0, hx415_1, hx415_2⟩ := at_T61 HR0.out x13_1 p415 q415
                  cases e415
                  replace p415 := eq_true p415
                  replace q415 := eq_true q415
                  have p416 : 0 ≤ (x13_1 : Int) := of_decide_eq_true (by first | (with_reducible assumption) | assumption)
                  have q416 : x13_1 < (l1.length : Int) := of_decide_eq_true (by first | (with_reducible assumption) | assumption)
                  obtain ⟨ad416, e416, hx416_0, hx416_1, hx416_2⟩ := at_T61 HR1.out x13_1 p416 q416
                  cases e416
                  replace p416 := eq_true p416
                  replace q416 := eq_true q416
                  go_wp2
                  repeat (go_quiet (fail); try go_wp2)
                  go_ret
                  exact ⟨by first | rfl | (simp; done) | (simp [*]; done), by repeat (first | exact Drawn0.refl _ | apply Drawn0.step)⟩
                · rw [if_neg c8] at H
                  have c8b0 : (!(((rd_T61 l0 x13_1).f0) == ((rd_T61 l1 x13_1).f0)) || (!(((rd_T61 l0 x13_1).f1) == ((rd_T61 l1 x13_1).f1)) || (!((((rd_T61 l0 x13_1).f2).toList) == (((rd_T61 l1 x13_1).f2).toList))))) = false := by simpa using c8
                  clear c8
                  have H' := Aside0.mk H
                  clear H
                  have p415 : 0 ≤ (x13_1 : Int) := of_decide_eq_true (by first | (with_reducible assumption) | assumption)
                  have q415 : x13_1 < (l0.length : Int) := of_decide_eq_true (by first | (with_reducible assumption) | assumption)
                  obtain ⟨ad415, e415, hx415_0, hx415_1, hx415_2⟩ := at_T61 HR0.out x13_1 p415 q415
                  cases e415
                  replace p415 := eq_true p415
                  replace q415 := eq_true q415
                  have p416 : 0 ≤ (x13_1 : Int) := of_decide_eq_true (by first | (with_reducible assumption) | assumption)
                  have q416 : x13_1 < (l1.length : Int) := of_decide_eq_true (by first | (with_reducible assumption) | assumption)
                  obtain ⟨ad416, e416, hx416_0, hx416_1, hx416_2⟩ := at_T61 HR1.out x13_1 p416 q416
                  cases e416
                  replace p416 := eq_true p416
                  replace q416 := eq_true q416
                  go_wp2
                  repeat (go_quiet (fail); try go_wp2)
                  go_roundg k1
                  case measure => have := HK1.out; omega
                  case rel => exact ⟨(wrap64 (x13_1 + 1)), (by first | rfl | (simp; done) | (simp [*]; done)), H', ⟨by have := HK1.out; omega⟩, by repeat (first | exact Drawn0.refl _ | apply Drawn0.step)⟩
              · rw [if_neg c7] at H
                exact absurd H (by simp)
            · rw [if_neg c6] at H
              exact absurd H (by simp)
          · rw [if_neg c5] at H
            exact absurd H (by simp)
        · rw [if_neg c4] at H
          have c4b0 : decide (x13_1 < (l0.length : Int)) = false := decide_eq_false c4
          clear c4
          obtain rfl := Option.some.inj H
          go_wp2
          repeat (go_quiet (fail); try go_wp2)
          go_ret
          exact ⟨by first | rfl | (simp; done) | (simp [*]; done), by repeat (first | exact Drawn0.refl _ | apply Drawn0.step)⟩
  · rw [if_neg c3] at H
    have c3b0 : ((l0.length : Int) == (l1.length : Int)) = false := beq_eq_false_iff_ne.mpr c3
    have c3b1 : ((l0.length : Int) != (l1.length : Int)) = true := bne_iff_ne.mpr c3
    have c3b2 : (l0.length == l1.length) = false := by first | simpa using c3 | (simp at c3 ⊢; omega)
    obtain rfl := Option.some.inj H
    go_enter Tryz.func76, Tryz.ntmps76
    go_wp2
    repeat (go_quiet (fail); try go_wp2)
    go_ret
    exact ⟨by first | rfl | (simp; done) | (simp [*]; done), by repeat (first | exact Drawn0.refl _ | apply Drawn0.step)⟩
theorem dec_cons {α : Type} [DecidableEq α] (x y : α) (l r : List α) : decide (x :: l = y :: r) = (decide (x = y) && decide (l = r)) := by
  by_cases e : x = y
  · by_cases e2 : l = r
    · subst e e2; simp
    · simp [e, e2]
  · simp [e]
theorem v_ne (x y : V) : (!(x.f0 == y.f0) || (!(x.f1 == y.f1) || !(x.f2.toList == y.f2.toList))) = !decide (x = y) := by
  by_cases h : x = y
  · subst h; simp
  · rw [decide_eq_false h, Bool.not_false]
    obtain ⟨a, b, c⟩ := x
    obtain ⟨a', b', c'⟩ := y
    by_cases h0 : a = a'
    · by_cases h1 : b = b'
      · have h2 : ¬ c.toList = c'.toList := fun e => h (by
          rw [ByteArray.toList_eq, ByteArray.toList_eq] at e
          rw [h0, h1, ba_ext e])
        simp [h2]
      · simp [h1]
    · simp [h0]
theorem eqRow_l0 (a b : List V) (hl : a.length = b.length) (hn : a.length ≤ 9223372036854775807) : ∀ (d i k : Nat), i + d = a.length → d < k →
    api_Value_76.l0 k a b (a.length : Int) (i : Int) = some (decide (a.drop i = b.drop i)) := by
  intro d
  induction d with
  | zero =>
    intro i k hi hk
    obtain ⟨k, rfl⟩ : ∃ m, k = m + 1 := ⟨k - 1, by omega⟩
    rw [api_Value_76.l0, if_neg (by omega), List.drop_of_length_le (by omega), List.drop_of_length_le (by omega)]
    rfl
  | succ d ih =>
    intro i k hi hk
    obtain ⟨k, rfl⟩ : ∃ m, k = m + 1 := ⟨k - 1, by omega⟩
    have h1 : i < a.length := by omega
    have h2 : i < b.length := by omega
    rw [api_Value_76.l0, if_pos (by omega), if_pos (by omega), if_pos (by omega), if_pos (by omega), rd_at a i h1, rd_at b i h2, v_ne, List.drop_eq_getElem_cons h1, List.drop_eq_getElem_cons h2]
    by_cases h : a[i] = b[i]
    · rw [decide_eq_true h, Bool.not_true, if_neg (by decide), wrap_small (n := (i : Int) + 1) (by omega) (by omega), show ((i : Int) + 1) = ((i + 1 : Nat) : Int) by omega, ih (i + 1) k (by omega) (by omega), dec_cons, decide_eq_true h, Bool.true_and]
    · rw [decide_eq_false h, Bool.not_false, if_pos rfl, dec_cons, decide_eq_false h, Bool.false_and]
def api_Value_76_s.f (l0 : List V) (l1 : List V) : Option Bool := some (decide (l0 = l1))
theorem api_Value_76_s.calls (A0 : Option Addr) (c0 : Nat) (l0 : List V) (A1 : Option Addr) (c1 : Nat) (l1 : List V) (r : Bool) (w : World) (hr0 : Kd.C k61 w A0 l0.length l0) (hc0 : l0.length ≤ c0) (hr1 : Kd.C k61 w A1 l1.length l1) (hc1 : l1.length ≤ c1) (h : api_Value_76_s.f l0 l1 = some r) :
    Calls Tryz.prog 76 #[.slice A0 l0.length c0, .slice A1 l1.length c1] w fun e w' => e = .returned (.bool r) ∧ Drawn0 w w' := by
  refine api_Value_76.calls (l0.length + 1) A0 c0 l0 A1 c1 l1 r w hr0 hc0 hr1 hc1 ?_
  rw [← h]
  unfold api_Value_76.f api_Value_76_s.f
  by_cases e : l0.length = l1.length
  · rw [if_pos (by omega)]
    exact eqRow_l0 l0 l1 e hr0.2.1 l0.length 0 (l0.length + 1) (by omega) (by omega)
  · rw [if_neg (by omega), decide_eq_false fun e' => e (by rw [e'])]
theorem row_cell {w : World} {A : Option Addr} {l : List (List V)} (h : Kd.C (Kd.slice 61 k61) w A l.length l) (k : Nat) (hk : k < l.length) :
    ∃ ad A1 c1, A = some ad ∧ w.cell? (ad.add k) = some (.slice A1 l[k].length c1) ∧ l[k].length ≤ c1 ∧ Kd.C k61 w A1 l[k].length l[k] := by
  obtain ⟨ad, e1, hcs⟩ := h.2.2 (by omega)
  obtain ⟨cs, hcs1, ⟨A1, c1, rfl, hle1, hC1⟩, hcs3⟩ := hcs k l[k] (List.getElem?_eq_getElem hk)
  refine ⟨ad, A1, c1, e1, ?_, hle1, hC1⟩
  have h9 := hcs3 0 _ rfl
  rw [show k * (Kd.slice 61 k61).sz + 0 = k from Nat.mul_one k] at h9
  exact h9
set_option maxRecDepth 100000 in
set_option maxHeartbeats 2000000 in
theorem eqFuncR.calls (g : Nat) (lb : Array Value) (eg : ∀ args w, (callFunc g args).run Tryz.prog w = .ok (.enter g args) w) (A0 A1 : Option Addr) (c0 c1 : Nat) (l0 l1 : List (List V)) (w : World)
    (hr0 : Kd.C (Kd.slice 61 k61) w A0 l0.length l0) (hr1 : Kd.C (Kd.slice 61 k61) w A1 l1.length l1) (hlen : l0.length ≤ 4611686018427387904)
    (hp : ∀ (x y : List V) (A B : Option Addr) (c d : Nat) (W : World), x.length ≤ c → Kd.C k61 W A x.length x → y.length ≤ d → Kd.C k61 W B y.length y →
      Calls Tryz.prog g (#[.slice A x.length c, .slice B y.length d] ++ lb) W fun e w' => e = .returned (.bool (decide (x = y))) ∧ Below W.heap.size W w') :
    Calls Tryz.prog 114 #[.slice A0 l0.length c0, .slice A1 l1.length c1, .func (.func g) #[] lb] w fun e w' => e = .returned (.bool (decide (l0 = l1))) ∧ Below w.heap.size w w' := by
  by_cases hl : l0.length = l1.length
  case neg =>
    have hz : ((l0.length : Int) != (l1.length : Int)) = true := bne_iff_ne.mpr (by omega)
    have hd : decide (l0 = l1) = false := decide_eq_false fun e => hl (by rw [e])
    rw [hd]
    clear hr0 hr1 hp hlen hd hl
    generalize l0.length = n at *
    generalize l1.length = m at *
    go_enter Tryz.func114, Tryz.ntmps114
    go_wp2
    go_ret
    exact ⟨rfl, Below.refl _ _⟩
  have HR0 := Aside0.mk hr0
  have HR1 := Aside0.mk hr1
  have HP := Aside0.mk hp
  have HL := Aside0.mk hl
  have HB := Aside0.mk (Below.refl w.heap.size w)
  rw [← hl]
  clear hr0 hr1 hp hl
  obtain ⟨n, hn⟩ : ∃ n, n = l0.length := ⟨_, rfl⟩
  rw [← hn]
  have hle : n ≤ 4611686018427387904 := by omega
  have HN := Aside0.mk hn
  clear hn hlen
  have hz : ((n : Int) != (n : Int)) = false := by simp
  go_enter Tryz.func114, Tryz.ntmps114
  go_wp2
  go_loopg [7, 8, 9, 17] n (fun gg _ _ _ s17 wr => ∃ kk : Nat, kk ≤ n ∧ n - kk ≤ gg ∧ s17 = .int .i64 kk ∧ Aside0 (Below w.heap.size w wr) ∧ Aside0 (decide (l0 = l1) = decide (l0.drop kk = l1.drop kk)))
  case atStart => exact ⟨0, Nat.zero_le _, by omega, rfl, HB, ⟨rfl⟩⟩
  case round =>
    clear HB
    obtain ⟨kk, hkk, hg, rfl, HB, HA⟩ := hrel
    by_cases hlt : kk < n
    · have hltz : (kk : Int) < (n : Int) := by omega
      have h0 : kk < l0.length := by have := HN.out; omega
      have h1 : kk < l1.length := by have := HN.out; have := HL.out; omega
      obtain ⟨ad, Ax, cx, rfl, hx0, hlx, hCx⟩ := row_cell HR0.out kk h0
      obtain ⟨bd, Ay, cy, rfl, hy0, hly, hCy⟩ := row_cell HR1.out kk h1
      replace hx0 := (HB.out.cell (World.block_lt_of_cell? w _ hx0)).trans hx0
      replace hy0 := (HB.out.cell (World.block_lt_of_cell? w _ hy0)).trans hy0
      have hcall := HP.out l0[kk] l1[kk] Ax Ay cx cy wr hlx (Kd.C_below hCx HB.out) hly (Kd.C_below hCy HB.out)
      have HE : Aside0 (decide (l0 = l1) = (decide (l0[kk] = l1[kk]) && decide (l0.drop (kk + 1) = l1.drop (kk + 1)))) := ⟨by
        rw [HA.out, List.drop_eq_getElem_cons h0, List.drop_eq_getElem_cons h1, dec_cons]⟩
      clear hlx hly hCx hCy
      generalize decide (l0[kk] = l1[kk]) = q at hcall HE
      generalize l0[kk].length = xlen at hx0 hcall
      generalize l1[kk].length = ylen at hy0 hcall
      clear h0 h1
      have HC := Aside0.mk hcall
      clear hcall HA
      cases q with
      | false =>
        go_wp2_with (go_at_fn g; refine HC.out.mono ?_; rintro e w' ⟨rfl, hb'⟩)
        go_ret
        exact ⟨by rw [HE.out]; rfl, HB.out.trans (hb'.mono HB.out.size)⟩
      | true =>
        go_wp2_with (go_at_fn g; refine HC.out.mono ?_; rintro e w' ⟨rfl, hb'⟩)
        go_roundg (n - (kk + 1))
        case measure => omega
        case rel => exact ⟨kk + 1, by omega, by omega, by go_num, ⟨HB.out.trans (hb'.mono HB.out.size)⟩, ⟨by rw [HE.out, Bool.true_and]⟩⟩
    · have hltz : decide (kk < n) = false := by simpa using hlt
      have HE : Aside0 (decide (l0 = l1) = true) := ⟨by
        rw [HA.out, List.drop_of_length_le (by have := HN.out; omega), List.drop_of_length_le (by have := HN.out; have := HL.out; omega)]
        rfl⟩
      clear hlt HA
      go_wp2
      go_ret
      exact ⟨by rw [HE.out]; rfl, HB.out⟩
theorem alikeEq.calls (x y : List V) (A B : Option Addr) (c d : Nat) (W : World) (hc : x.length ≤ c) (hx : Kd.C k61 W A x.length x) (hd : y.length ≤ d) (hy : Kd.C k61 W B y.length y) :
    Calls Tryz.prog 115 (#[.slice A x.length c, .slice B y.length d] ++ #[]) W fun e w' => e = .returned (.bool (decide (x = y))) ∧ Below W.heap.size W w' := by
  have HC := Aside0.mk (api_Value_76_s.calls A c x B d y (decide (x = y)) W hx hc hy hd rfl)
  clear hc hx hd hy
  generalize decide (x = y) = q at HC ⊢
  generalize x.length = n at HC ⊢
  generalize y.length = m at HC ⊢
  go_enter Tryz.func115, Tryz.ntmps115
  go_wp2_with (go_at_call 76; refine HC.out.mono ?_; rintro e w' ⟨rfl, hb'⟩)
  go_ret
  obtain ⟨q, rfl⟩ := hb'.out
  exact ⟨rfl, yN (Below.refl _ _) q⟩
def rows_Alike.f (l0 : List (List V)) (l1 : List (List V)) : Option Bool := if l0.length ≤ 4611686018427387904 then some (decide (l0 = l1)) else none
theorem rows_Alike.calls (A0 : Option Addr) (c0 : Nat) (l0 : List (List V)) (A1 : Option Addr) (c1 : Nat) (l1 : List (List V)) (r : Bool) (w : World) (hr0 : Kd.C (Kd.slice 61 k61) w A0 l0.length l0) (_hc0 : l0.length ≤ c0) (hr1 : Kd.C (Kd.slice 61 k61) w A1 l1.length l1) (_hc1 : l1.length ≤ c1) (h : rows_Alike.f l0 l1 = some r) :
    Calls Tryz.prog 75 #[.slice A0 l0.length c0, .slice A1 l1.length c1] w fun e w' => e = .returned (.bool r) ∧ Below w.heap.size w w' := by
  unfold rows_Alike.f at h
  by_cases hs : l0.length ≤ 4611686018427387904
  case neg => rw [if_neg hs] at h; cases h
  rw [if_pos hs] at h
  obtain rfl := Option.some.inj h
  have eg : ∀ args w, (callFunc 115 args).run Tryz.prog w = .ok (.enter 115 args) w := enters_of Tryz.func115 (by kernel_rfl) rfl
  have HC := Aside0.mk (eqFuncR.calls 115 #[] eg A0 A1 c0 c1 l0 l1 w hr0 hr1 hs fun x y A B c d W hc hx hd hy => alikeEq.calls x y A B c d W hc hx hd hy)
  clear hr0 hr1 hs h eg _hc0 _hc1
  generalize decide (l0 = l1) = q at HC ⊢
  generalize l0.length = n at HC ⊢
  generalize l1.length = m at HC ⊢
  go_enter Tryz.func75, Tryz.ntmps75
  go_wp2_with (go_at_call 114; refine HC.out.mono ?_; rintro e w' ⟨rfl, hb'⟩)
  go_ret
  exact ⟨rfl, hb'⟩
def rows_Same.f (l0 : List (List (S61))) (l1 : List (List (S61))) : Option (Bool × Int) := (rows_small.f (([l0, l1] : List (List (List (S61)))))).bind fun t420 => (if t420 = 0 then ((rows_Sorted.f l0).bind fun t421 => ((rows_Sorted.f l1).bind fun t424 => ((rows_Alike.f t421 t424).bind fun t427 => (some (t427, 0))))) else (some (false, t420)))
set_option maxHeartbeats 8000000 in
set_option maxRecDepth 100000 in
theorem rows_Same.calls (P0_ : Nat → Prop) (A0 : Option Addr) (c0 : Nat) (l0 : List (List (S61))) (P1_ : Nat → Prop) (A1 : Option Addr) (c1 : Nat) (l1 : List (List (S61))) (r1 : Bool) (r2 : Int) (w : World) (hs0 : Kd.V (Kd.slice 61 k61) 40 w w.heap.size (fun k_ => P0_ k_) (.slice A0 l0.length c0) l0) (hs1 : Kd.V (Kd.slice 61 k61) 40 w w.heap.size (fun k_ => P1_ k_) (.slice A1 l1.length c1) l1) (h : rows_Same.f l0 l1 = some (r1, r2)) :
  Calls Tryz.prog 42 #[.slice A0 l0.length c0, .slice A1 l1.length c1] w fun e w' => e = .returned (.tuple #[.bool r1, .int .i64 r2]) ∧ Below w.heap.size w w' := by
 have HO0 := Aside0.mk (show Kd.V (Kd.slice 61 k61) 40 w w.heap.size (fun k_ => ((P0_ k_ ∨ P1_ k_) ∨ w.heap.size ≤ k_)) (.slice A0 l0.length c0) l0 from Kd.V_mono hs0 (fun k_ hk => .inl (.inl hk)))
 have HO1 := Aside0.mk (show Kd.V (Kd.slice 61 k61) 40 w w.heap.size (fun k_ => ((P0_ k_ ∨ P1_ k_) ∨ w.heap.size ≤ k_)) (.slice A1 l1.length c1) l1 from Kd.V_mono hs1 (fun k_ hk => .inl (.inr hk)))
 have HB := Aside0.mk (Below.refl w.heap.size w)
 have H : ((rows_small.f (([l0, l1] : List (List (List (S61)))))).bind fun t420 => (if t420 = 0 then ((rows_Sorted.f l0).bind fun t421 => ((rows_Sorted.f l1).bind fun t424 => ((rows_Alike.f t421 t424).bind fun t427 => (some (t427, 0))))) else (some (false, t420)))) = some (r1, r2) := h
 clear h
 obtain ⟨y417, hy417⟩ : ∃ y_ : List (List (List (S61))), y_ = (([l0, l1] : List (List (List (S61))))) := ⟨_, rfl⟩
 replace H : ((rows_small.f y417).bind fun t420 => (if t420 = 0 then ((rows_Sorted.f l0).bind fun t421 => ((rows_Sorted.f l1).bind fun t424 => ((rows_Alike.f t421 t424).bind fun t427 => (some (t427, 0))))) else (some (false, t420)))) = some (r1, r2) := by first | (rw [hy417]; with_reducible exact H) | (have H2_ := (Option.bind_some _ _).symm.trans H; rw [hy417]; with_reducible exact H2_) | (have H2_ := (Option.bind_some _ _).symm.trans H; with_reducible exact H2_) | with_reducible exact H | (rw [hy417]; exact H) | exact H
 have Ny417 := Aside0.mk hy417
 clear hy417
 replace H := Option.bind_eq_some_iff.mp H
 obtain ⟨t420, A30, H⟩ := H
 replace H : (if t420 = 0 then ((rows_Sorted.f l0).bind fun t421 => ((rows_Sorted.f l1).bind fun t424 => ((rows_Alike.f t421 t424).bind fun t427 => (some (t427, 0))))) else (some (false, t420))) = some (r1, r2) := H
 have A3 := Aside0.mk A30
 clear A30
 by_cases c4 : t420 = 0
 ·rw [if_pos c4] at H
  have c4b0 : (t420 == 0) = true := beq_iff_eq.mpr c4
  have c4b1 : (t420 != 0) = false := bne_eq_false_iff_eq.mpr c4
  clear c4
  replace H := Option.bind_eq_some_iff.mp H
  obtain ⟨t421, A50, H⟩ := H
  replace H : ((rows_Sorted.f l1).bind fun t424 => ((rows_Alike.f t421 t424).bind fun t427 => (some (t427, 0)))) = some (r1, r2) := H
  have A5 := Aside0.mk A50
  clear A50
  replace H := Option.bind_eq_some_iff.mp H
  obtain ⟨t424, A60, H⟩ := H
  replace H : ((rows_Alike.f t421 t424).bind fun t427 => (some (t427, 0))) = some (r1, r2) := H
  have A6 := Aside0.mk A60
  clear A60
  replace H := Option.bind_eq_some_iff.mp H
  obtain ⟨t427, A70, H⟩ := H
  replace H : (some (t427, 0)) = some (r1, r2) := H
  have A7 := Aside0.mk A70
  clear A70
  simp only [Option.some.injEq, Prod.mk.injEq] at H
  obtain ⟨rfl, rfl⟩ := H
  go_enter Tryz.func42, Tryz.ntmps42
  go_wp2_with (first | ((with_reducible refine gate_dst (N := 9) rfl ?_); refine Kd.N_lit (Kd.slice 40 (Kd.slice 61 k61)) _ 22 ?hg (N' := 9) ?hd (xs := ([l0, l1] : List (List (List (S61))))) (inner := [.slice A0 l0.length c0, .slice A1 l1.length c1]) (ok := (fun k_ => ((P0_ k_ ∨ P1_ k_) ∨ w.heap.size ≤ k_))) (okp := (fun k_ => ((P0_ k_ ∨ P1_ k_) ∨ w.heap.size ≤ k_))) ?hr ?hp (fun _ hk => hk) ((show ∀ k_, w.heap.size ≤ k_ → (fun k_ => ((P0_ k_ ∨ P1_ k_) ∨ w.heap.size ≤ k_)) k_ from fun k_ hk => (.inr (Nat.le_trans (below_size (by repeat (first | (with_reducible first | exact HB.out | apply yA | apply yN | apply yD) | exact HB.out))) hk))) _ (Nat.le_refl _)) (Below.refl _ _) (Nat.le_refl _) (by simp) ?_; (case hd => rfl); (case hg => rfl); (case hr => first | (go_simp; done) | (go_simp; rfl)); (case hp => exact (Reps.one (show Kd.FK (Kd.slice 40 (Kd.slice 61 k61)) _ _ l0 [.slice A0 l0.length c0] from (Kd.FK_slice_mk (Kd.V_reads' (Kd.V_mono (ok' := (fun k_ => ((P0_ k_ ∨ P1_ k_) ∨ w.heap.size ≤ k_))) (HO0.out) (fun k_ hk => hk))).2.1 (Kd.V_F (Kd.V_mono (ok' := (fun k_ => ((P0_ k_ ∨ P1_ k_) ∨ w.heap.size ≤ k_))) (HO0.out) (fun k_ hk => hk))))) (Reps.one (show Kd.FK (Kd.slice 40 (Kd.slice 61 k61)) _ _ l1 [.slice A1 l1.length c1] from (Kd.FK_slice_mk (Kd.V_reads' (Kd.V_mono (ok' := (fun k_ => ((P0_ k_ ∨ P1_ k_) ∨ w.heap.size ≤ k_))) (HO1.out) (fun k_ hk => hk))).2.1 (Kd.V_F (Kd.V_mono (ok' := (fun k_ => ((P0_ k_ ∨ P1_ k_) ∨ w.heap.size ≤ k_))) (HO1.out) (fun k_ hk => hk))))) (Reps.none _ _)))); intro v418 w8 ho9 hb hg_ hnew_; clear hg_ hnew_; (first | rw [← Ny417.out] at ho9 | (simp only [Int.reduceToNat] at ho9; rw [← Ny417.out] at ho9)); have n0_ := Aside0.mk (Kd.V_elder' (by (with_reducible repeat (first | apply Kd.V_alloc | apply Kd.V_drewN | apply Kd.V_drew)); exact HO0.out) (Kd.N_base ho9) hb); have n1_ := Aside0.mk (Kd.V_elder' (by (with_reducible repeat (first | apply Kd.V_alloc | apply Kd.V_drewN | apply Kd.V_drew)); exact HO1.out) (Kd.N_base ho9) hb); have n2_ := Aside0.mk (Kd.N_lower ho9 (below_size (by repeat (first | (with_reducible first | exact HB.out | apply yA | apply yN | apply yD) | exact HB.out)))); have n3_ := Aside0.mk (below_step (by repeat (first | (with_reducible first | exact HB.out | apply yA | apply yN | apply yD) | exact HB.out)) hb); clear HO0; clear HO1; clear HB; have HO0 := n0_; have HO1 := n1_; have HO419 := n2_; have HB := n3_; clear n0_ n1_ n2_ n3_; clear hb ho9; obtain ⟨Ao10, co10, eo10⟩ := Kd.N_slice HO419.out; subst eo10) | ((with_reducible refine gate_callee (f := 52) rfl ?_); refine goesL_ (some 10) rfl rfl Tryz.func52 (by kernel_rfl) rfl #[.slice Ao10 y417.length co10] rfl (by (try simp only [List.map_toArray, List.map_cons, List.map_nil]); first | done | rfl | (simp only [List.length_drop, List.length_take]; rfl)) ?_; (with_reducible refine (rows_small.calls _ _ y417 t420 _ ?side1 ?side2 A3.out).mono ?_); (case side1 => repeat (first | exact (Kd.N_reads' HO419.out).2.2 | (with_reducible refine Kd.C_alloc ?_ _) | (with_reducible refine Kd.C_drewN ?_ _) | (with_reducible refine Kd.C_drew ?_))); (case side2 => exact (Kd.N_reads' HO419.out).2.1); rintro e w11 ⟨rfl, hb⟩; refine ⟨_, rfl, ?_⟩; have n0_ := Aside0.mk (Kd.V_below (by (with_reducible repeat (first | apply Kd.V_alloc | apply Kd.V_drewN | apply Kd.V_drew)); exact HO0.out) hb); have n1_ := Aside0.mk (Kd.V_below (by (with_reducible repeat (first | apply Kd.V_alloc | apply Kd.V_drewN | apply Kd.V_drew)); exact HO1.out) hb); have n2_ := Aside0.mk (Kd.N_below (by (with_reducible repeat (first | apply Kd.N_alloc | apply Kd.N_drewN | apply Kd.N_drew)); exact HO419.out) hb); have n3_ := Aside0.mk (below_step (by repeat (first | (with_reducible first | exact HB.out | apply yA | apply yN | apply yD) | exact HB.out)) hb); clear HO0; clear HO1; clear HO419; clear HB; have HO0 := n0_; have HO1 := n1_; have HO419 := n2_; have HB := n3_; clear n0_ n1_ n2_ n3_; (try clear hb); (try clear hb2); (try clear hk); (try clear hi)) | ((with_reducible refine gate_callee (f := 64) rfl ?_); refine goesL_ (some 15) rfl rfl Tryz.func64 (by kernel_rfl) rfl #[.slice A0 l0.length c0] rfl (by (try simp only [List.map_toArray, List.map_cons, List.map_nil]); first | done | rfl | (simp only [List.length_drop, List.length_take]; rfl)) ?_; (with_reducible refine (rows_Sorted.calls _ _ l0 t421 _ ?side1 ?side2 A5.out).mono ?_); (case side1 => repeat (first | exact (Kd.V_reads' HO0.out).2.2 | (with_reducible refine Kd.C_alloc ?_ _) | (with_reducible refine Kd.C_drewN ?_ _) | (with_reducible refine Kd.C_drew ?_))); (case side2 => exact (Kd.V_reads' HO0.out).2.1); rintro e w12 ⟨v422, rfl, ho0, hb⟩; refine ⟨_, rfl, ?_⟩; have n0_ := Aside0.mk (Kd.V_elder' (by (with_reducible repeat (first | apply Kd.V_alloc | apply Kd.V_drewN | apply Kd.V_drew)); exact HO0.out) (Kd.N_base (Kd.S_N ho0)) hb); have n1_ := Aside0.mk (Kd.V_elder' (by (with_reducible repeat (first | apply Kd.V_alloc | apply Kd.V_drewN | apply Kd.V_drew)); exact HO1.out) (Kd.N_base (Kd.S_N ho0)) hb); have n2_ := Aside0.mk (Kd.N_elder' (by (with_reducible repeat (first | apply Kd.N_alloc | apply Kd.N_drewN | apply Kd.N_drew)); exact HO419.out) (Kd.N_base (Kd.S_N ho0)) hb); have n3_ := Aside0.mk (Kd.N_lower (Kd.N_mono (ok' := fun k_ => ((P0_ k_ ∨ P1_ k_) ∨ w.heap.size ≤ k_) ∧ some k_ ≠ (.slice Ao10 y417.length co10 : Value).ownBlock) (Kd.S_N (Kd.S_bound ho0)) (fun k_ hk_ => ⟨(.inr (Nat.le_trans (below_size (by repeat (first | (with_reducible first | exact HB.out | apply yA | apply yN | apply yD) | exact HB.out))) hk_.2.1)), (Kd.fresh' (Kd.N_lt (by (with_reducible repeat (first | apply Kd.N_alloc | apply Kd.N_drewN | apply Kd.N_drew)); exact HO419.out)) k_ hk_.2.1)⟩)) (below_size (by repeat (first | (with_reducible first | exact HB.out | apply yA | apply yN | apply yD) | exact HB.out)))); have n4_ := Aside0.mk (below_step (by repeat (first | (with_reducible first | exact HB.out | apply yA | apply yN | apply yD) | exact HB.out)) hb); clear HO0; clear HO1; clear HO419; clear HB; have HO0 := n0_; have HO1 := n1_; have HO419 := n2_; have HO423 := n3_; have HB := n4_; clear n0_ n1_ n2_ n3_ n4_; (try clear hb); (try clear hb2); (try clear hk); (try clear hi); (try clear ho0)) | ((with_reducible refine gate_callee (f := 64) rfl ?_); refine goesL_ (some 17) rfl rfl Tryz.func64 (by kernel_rfl) rfl #[.slice A1 l1.length c1] rfl (by (try simp only [List.map_toArray, List.map_cons, List.map_nil]); first | done | rfl | (simp only [List.length_drop, List.length_take]; rfl)) ?_; (with_reducible refine (rows_Sorted.calls _ _ l1 t424 _ ?side1 ?side2 A6.out).mono ?_); (case side1 => repeat (first | exact (Kd.V_reads' HO1.out).2.2 | (with_reducible refine Kd.C_alloc ?_ _) | (with_reducible refine Kd.C_drewN ?_ _) | (with_reducible refine Kd.C_drew ?_))); (case side2 => exact (Kd.V_reads' HO1.out).2.1); rintro e w13 ⟨v425, rfl, ho0, hb⟩; refine ⟨_, rfl, ?_⟩; have n0_ := Aside0.mk (Kd.V_elder' (by (with_reducible repeat (first | apply Kd.V_alloc | apply Kd.V_drewN | apply Kd.V_drew)); exact HO0.out) (Kd.N_base (Kd.S_N ho0)) hb); have n1_ := Aside0.mk (Kd.V_elder' (by (with_reducible repeat (first | apply Kd.V_alloc | apply Kd.V_drewN | apply Kd.V_drew)); exact HO1.out) (Kd.N_base (Kd.S_N ho0)) hb); have n2_ := Aside0.mk (Kd.N_elder' (by (with_reducible repeat (first | apply Kd.N_alloc | apply Kd.N_drewN | apply Kd.N_drew)); exact HO419.out) (Kd.N_base (Kd.S_N ho0)) hb); have n3_ := Aside0.mk (Kd.N_elder' (by (with_reducible repeat (first | apply Kd.N_alloc | apply Kd.N_drewN | apply Kd.N_drew)); exact HO423.out) (Kd.N_base (Kd.S_N ho0)) hb); have n4_ := Aside0.mk (Kd.N_lower (Kd.N_mono (ok' := fun k_ => ((P0_ k_ ∨ P1_ k_) ∨ w.heap.size ≤ k_) ∧ some k_ ≠ (.slice Ao10 y417.length co10 : Value).ownBlock ∧ some k_ ≠ (v422 : Value).ownBlock) (Kd.S_N (Kd.S_bound ho0)) (fun k_ hk_ => ⟨(.inr (Nat.le_trans (below_size (by repeat (first | (with_reducible first | exact HB.out | apply yA | apply yN | apply yD) | exact HB.out))) hk_.2.1)), (Kd.fresh' (Kd.N_lt (by (with_reducible repeat (first | apply Kd.N_alloc | apply Kd.N_drewN | apply Kd.N_drew)); exact HO419.out)) k_ hk_.2.1), (Kd.fresh' (Kd.N_lt (by (with_reducible repeat (first | apply Kd.N_alloc | apply Kd.N_drewN | apply Kd.N_drew)); exact HO423.out)) k_ hk_.2.1)⟩)) (below_size (by repeat (first | (with_reducible first | exact HB.out | apply yA | apply yN | apply yD) | exact HB.out)))); have n5_ := Aside0.mk (below_step (by repeat (first | (with_reducible first | exact HB.out | apply yA | apply yN | apply yD) | exact HB.out)) hb); clear HO0; clear HO1; clear HO419; clear HO423; clear HB; have HO0 := n0_; have HO1 := n1_; have HO419 := n2_; have HO423 := n3_; have HO426 := n4_; have HB := n5_; clear n0_ n1_ n2_ n3_ n4_ n5_; (try clear hb); (try clear hb2); (try clear hk); (try clear hi); (try clear ho0); obtain ⟨Ao14, co14, eo14⟩ := Kd.N_slice HO423.out; subst eo14; obtain ⟨Ao15, co15, eo15⟩ := Kd.N_slice HO426.out; subst eo15) | ((with_reducible refine gate_callee (f := 75) rfl ?_); refine goesL_ (some 18) rfl rfl Tryz.func75 (by kernel_rfl) rfl #[.slice Ao14 t421.length co14, .slice Ao15 t424.length co15] rfl (by (try simp only [List.map_toArray, List.map_cons, List.map_nil]); first | done | rfl | (simp only [List.length_drop, List.length_take]; rfl)) ?_; (with_reducible refine (rows_Alike.calls _ _ t421 _ _ t424 t427 _ ?side1 ?side2 ?side3 ?side4 A7.out).mono ?_); (case side1 => repeat (first | exact (Kd.N_reads' HO423.out).2.2 | (with_reducible refine Kd.C_alloc ?_ _) | (with_reducible refine Kd.C_drewN ?_ _) | (with_reducible refine Kd.C_drew ?_))); (case side2 => exact (Kd.N_reads' HO423.out).2.1); (case side3 => repeat (first | exact (Kd.N_reads' HO426.out).2.2 | (with_reducible refine Kd.C_alloc ?_ _) | (with_reducible refine Kd.C_drewN ?_ _) | (with_reducible refine Kd.C_drew ?_))); (case side4 => exact (Kd.N_reads' HO426.out).2.1); rintro e w16 ⟨rfl, hb⟩; refine ⟨_, rfl, ?_⟩; have n0_ := Aside0.mk (Kd.V_below (by (with_reducible repeat (first | apply Kd.V_alloc | apply Kd.V_drewN | apply Kd.V_drew)); exact HO0.out) hb); have n1_ := Aside0.mk (Kd.V_below (by (with_reducible repeat (first | apply Kd.V_alloc | apply Kd.V_drewN | apply Kd.V_drew)); exact HO1.out) hb); have n2_ := Aside0.mk (Kd.N_below (by (with_reducible repeat (first | apply Kd.N_alloc | apply Kd.N_drewN | apply Kd.N_drew)); exact HO419.out) hb); have n3_ := Aside0.mk (Kd.N_below (by (with_reducible repeat (first | apply Kd.N_alloc | apply Kd.N_drewN | apply Kd.N_drew)); exact HO423.out) hb); have n4_ := Aside0.mk (Kd.N_below (by (with_reducible repeat (first | apply Kd.N_alloc | apply Kd.N_drewN | apply Kd.N_drew)); exact HO426.out) hb); have n5_ := Aside0.mk (below_step (by repeat (first | (with_reducible first | exact HB.out | apply yA | apply yN | apply yD) | exact HB.out)) hb); clear HO0; clear HO1; clear HO419; clear HO423; clear HO426; clear HB; have HO0 := n0_; have HO1 := n1_; have HO419 := n2_; have HO423 := n3_; have HO426 := n4_; have HB := n5_; clear n0_ n1_ n2_ n3_ n4_ n5_; (try clear hb); (try clear hb2); (try clear hk); (try clear hi)))
  go_ret2
  exact ⟨by first | rfl | (simp [errW_none, errW_some] <;> rfl) | (simp [*, errW_none, errW_some] <;> rfl), by repeat (first | (with_reducible first | exact HB.out | apply yA | apply yN | apply yD) | exact HB.out)⟩
 ·rw [if_neg c4] at H
  have c4b0 : (t420 == 0) = false := beq_eq_false_iff_ne.mpr c4
  have c4b1 : (t420 != 0) = true := bne_iff_ne.mpr c4
  simp only [Option.some.injEq, Prod.mk.injEq] at H
  obtain ⟨rfl, rfl⟩ := H
  go_enter Tryz.func42, Tryz.ntmps42
  go_wp2_with (first | ((with_reducible refine gate_dst (N := 9) rfl ?_); refine Kd.N_lit (Kd.slice 40 (Kd.slice 61 k61)) _ 22 ?hg (N' := 9) ?hd (xs := ([l0, l1] : List (List (List (S61))))) (inner := [.slice A0 l0.length c0, .slice A1 l1.length c1]) (ok := (fun k_ => ((P0_ k_ ∨ P1_ k_) ∨ w.heap.size ≤ k_))) (okp := (fun k_ => ((P0_ k_ ∨ P1_ k_) ∨ w.heap.size ≤ k_))) ?hr ?hp (fun _ hk => hk) ((show ∀ k_, w.heap.size ≤ k_ → (fun k_ => ((P0_ k_ ∨ P1_ k_) ∨ w.heap.size ≤ k_)) k_ from fun k_ hk => (.inr (Nat.le_trans (below_size (by repeat (first | (with_reducible first | exact HB.out | apply yA | apply yN | apply yD) | exact HB.out))) hk))) _ (Nat.le_refl _)) (Below.refl _ _) (Nat.le_refl _) (by simp) ?_; (case hd => rfl); (case hg => rfl); (case hr => first | (go_simp; done) | (go_simp; rfl)); (case hp => exact (Reps.one (show Kd.FK (Kd.slice 40 (Kd.slice 61 k61)) _ _ l0 [.slice A0 l0.length c0] from (Kd.FK_slice_mk (Kd.V_reads' (Kd.V_mono (ok' := (fun k_ => ((P0_ k_ ∨ P1_ k_) ∨ w.heap.size ≤ k_))) (HO0.out) (fun k_ hk => hk))).2.1 (Kd.V_F (Kd.V_mono (ok' := (fun k_ => ((P0_ k_ ∨ P1_ k_) ∨ w.heap.size ≤ k_))) (HO0.out) (fun k_ hk => hk))))) (Reps.one (show Kd.FK (Kd.slice 40 (Kd.slice 61 k61)) _ _ l1 [.slice A1 l1.length c1] from (Kd.FK_slice_mk (Kd.V_reads' (Kd.V_mono (ok' := (fun k_ => ((P0_ k_ ∨ P1_ k_) ∨ w.heap.size ≤ k_))) (HO1.out) (fun k_ hk => hk))).2.1 (Kd.V_F (Kd.V_mono (ok' := (fun k_ => ((P0_ k_ ∨ P1_ k_) ∨ w.heap.size ≤ k_))) (HO1.out) (fun k_ hk => hk))))) (Reps.none _ _)))); intro v418 w17 ho18 hb hg_ hnew_; clear hg_ hnew_; (first | rw [← Ny417.out] at ho18 | (simp only [Int.reduceToNat] at ho18; rw [← Ny417.out] at ho18)); have n0_ := Aside0.mk (Kd.V_elder' (by (with_reducible repeat (first | apply Kd.V_alloc | apply Kd.V_drewN | apply Kd.V_drew)); exact HO0.out) (Kd.N_base ho18) hb); have n1_ := Aside0.mk (Kd.V_elder' (by (with_reducible repeat (first | apply Kd.V_alloc | apply Kd.V_drewN | apply Kd.V_drew)); exact HO1.out) (Kd.N_base ho18) hb); have n2_ := Aside0.mk (Kd.N_lower ho18 (below_size (by repeat (first | (with_reducible first | exact HB.out | apply yA | apply yN | apply yD) | exact HB.out)))); have n3_ := Aside0.mk (below_step (by repeat (first | (with_reducible first | exact HB.out | apply yA | apply yN | apply yD) | exact HB.out)) hb); clear HO0; clear HO1; clear HB; have HO0 := n0_; have HO1 := n1_; have HO419 := n2_; have HB := n3_; clear n0_ n1_ n2_ n3_; clear hb ho18; obtain ⟨Ao19, co19, eo19⟩ := Kd.N_slice HO419.out; subst eo19) | ((with_reducible refine gate_callee (f := 52) rfl ?_); refine goesL_ (some 10) rfl rfl Tryz.func52 (by kernel_rfl) rfl #[.slice Ao19 y417.length co19] rfl (by (try simp only [List.map_toArray, List.map_cons, List.map_nil]); first | done | rfl | (simp only [List.length_drop, List.length_take]; rfl)) ?_; (with_reducible refine (rows_small.calls _ _ y417 t420 _ ?side1 ?side2 A3.out).mono ?_); (case side1 => repeat (first | exact (Kd.N_reads' HO419.out).2.2 | (with_reducible refine Kd.C_alloc ?_ _) | (with_reducible refine Kd.C_drewN ?_ _) | (with_reducible refine Kd.C_drew ?_))); (case side2 => exact (Kd.N_reads' HO419.out).2.1); rintro e w20 ⟨rfl, hb⟩; refine ⟨_, rfl, ?_⟩; have n0_ := Aside0.mk (Kd.V_below (by (with_reducible repeat (first | apply Kd.V_alloc | apply Kd.V_drewN | apply Kd.V_drew)); exact HO0.out) hb); have n1_ := Aside0.mk (Kd.V_below (by (with_reducible repeat (first | apply Kd.V_alloc | apply Kd.V_drewN | apply Kd.V_drew)); exact HO1.out) hb); have n2_ := Aside0.mk (Kd.N_below (by (with_reducible repeat (first | apply Kd.N_alloc | apply Kd.N_drewN | apply Kd.N_drew)); exact HO419.out) hb); have n3_ := Aside0.mk (below_step (by repeat (first | (with_reducible first | exact HB.out | apply yA | apply yN | apply yD) | exact HB.out)) hb); clear HO0; clear HO1; clear HO419; clear HB; have HO0 := n0_; have HO1 := n1_; have HO419 := n2_; have HB := n3_; clear n0_ n1_ n2_ n3_; (try clear hb); (try clear hb2); (try clear hk); (try clear hi)))
  go_ret2
  exact ⟨by first | rfl | (simp [errW_none, errW_some] <;> rfl) | (simp [*, errW_none, errW_some] <;> rfl), by repeat (first | (with_reducible first | exact HB.out | apply yA | apply yN | apply yD) | exact HB.out)⟩
end Go.Proofs.YtmhobbdedmjmnaaGreatDoor.Q
end
section
/- Each function reached is shown to return what the plain function beside it computes, wherever that is defined (written by a program of ours for this seat). -/
namespace Go.Proofs.YtmhobbdedmjmnaaGreatDoor.Q
open Go.RowKit Go.Proofs.YtmhobbdedmjmnaaGreatDoorW.PrintWords Go.Proofs.YtmhobbdedmjmnaaGreatDoorW.PrintLast Go.Proofs.YtmhobbdedmjmnaaGreatDoorW.PrintMore
attribute [local go_sem] max2_int min2_int max_two min_two max_three min_three max_four min_four   -- for this text's walks alone
set_option linter.unusedVariables false
set_option linter.unusedSimpArgs false
theorem or2_at (a b : Int) : cmp_Or_int.f 3 [a, b] = some (if a ≠ 0 then a else b) := by
  have w1 : wrap64 (0 + 1) = 1 := by unfold wrap64; omega
  have w2 : wrap64 (1 + 1) = 2 := by unfold wrap64; omega
  have r0 : rd [a, b] 0 = a := rfl
  have r1 : rd [a, b] 1 = b := rfl
  have e : ([a, b].length : Int) = 2 := rfl
  simp only [cmp_Or_int.f, cmp_Or_int.l0, e, w1, w2, r0, r1]
  by_cases ha : a = 0 <;> by_cases hb : b = 0 <;> simp [ha, hb]
theorem C_ints2 (W : World) (x y : Int) : Kd.C (Kd.int .i64) (W.alloc (.cells #[.int .i64 x, .int .i64 y] 3)) (some ⟨W.heap.size, 0, none⟩) 2 [x, y] :=
  C_lit rfl (blk_new W _) (Reps.one rfl (Reps.one rfl (Reps.none _ _))) (show 2 ≤ 1000 by decide)
theorem or2.calls (W : World) (x y : Int) (g : Nat) (hg : g = W.heap.size) : Calls Tryz.prog 109 #[.slice (some ⟨g, 0, none⟩) 2 2] (W.alloc (.cells #[.int .i64 x, .int .i64 y] 3)) fun e w' => e = .returned (.int .i64 (if x ≠ 0 then x else y)) ∧ BelowD W.heap.size W w' := by
  subst hg
  refine (cmp_Or_int.calls 3 (some ⟨W.heap.size, 0, none⟩) 2 [x, y] (if x ≠ 0 then x else y) _ (C_ints2 W x y) (Nat.le_refl _) (or2_at x y)).mono ?_
  rintro e w' ⟨he, hd⟩
  obtain ⟨n, rfl⟩ := hd.out
  exact ⟨he, dN (dA (BelowD.refl _ _) _) n⟩
set_option maxHeartbeats 4000000 in
set_option maxRecDepth 100000 in
theorem part1.calls (gb : Nat) (K : Option Addr) (ck : Nat) (p : List Int) (A0 A1 : Option Addr) (c0 c1 : Nat) (a b : List V) (w : World) (hc : w.cell? ⟨gb, 0, none⟩ = some (.slice K p.length ck)) (hck : p.length ≤ ck) (hK : Kd.C (Kd.int .i64) w K p.length p)
    (hA : Kd.C k61 w A0 a.length a) (hca : a.length ≤ c0) (hB : Kd.C k61 w A1 b.length b) (hcb : b.length ≤ c1) (la : a.length ≤ 4611686018427387904) (lb : b.length ≤ 4611686018427387904) (lp : p.length ≤ 1000000) (pa : placesIn p a = true) (pb : placesIn p b = true) :
    Calls Tryz.prog 108 (#[.slice A0 a.length c0, .slice A1 b.length c1] ++ #[.pointer (some ⟨gb, 0, none⟩)]) w fun e w' => e = .returned (.int .i64 (cfP p a b)) ∧ BelowD w.heap.size w w' := by
  have mixed : Tryz.prog.follows .mixedOrders = true := by kernel_rfl
  have lpa : (atP p a).length ≤ 4611686018427387904 := by unfold atP; rw [List.length_map]; omega
  have lpb : (atP p b).length ≤ 4611686018427387904 := by unfold atP; rw [List.length_map]; omega
  have H1 := Aside0.mk (fun W (hb : BelowD w.heap.size w W) => rows_At_s.grows A0 c0 a K ck p (atP p a) W (Kd.C_below hA hb.b) hca (Kd.C_below hK hb.b) hck (by unfold rows_At_s.f; rw [if_pos ⟨lp, pa⟩]))
  have H2 := Aside0.mk (fun W (hb : BelowD w.heap.size w W) => rows_At_s.grows A1 c1 b K ck p (atP p b) W (Kd.C_below hB hb.b) hcb (Kd.C_below hK hb.b) hck (by unfold rows_At_s.f; rw [if_pos ⟨lp, pb⟩]))
  have H3 := Aside0.mk (fun W Ax Ay cx cy hx hy => rows_Order.grows Ax Ay cx cy (atP p a) (atP p b) (cfR (atP p a) (atP p b)) W hx hy (by unfold rows_Order.f; rw [if_pos ⟨lpa, lpb⟩]))
  have H4 := Aside0.mk (fun W (hb : BelowD w.heap.size w W) => rows_Order.grows A0 A1 c0 c1 a b (cfR a b) W (Kd.C_below hA hb.b) (Kd.C_below hB hb.b) (by unfold rows_Order.f; rw [if_pos ⟨la, lb⟩]))
  have HV : Aside0 (cfP p a b = if cfR (atP p a) (atP p b) ≠ 0 then cfR (atP p a) (atP p b) else cfR a b) := ⟨rfl⟩
  rw [HV.out]
  have HB := Aside0.mk (BelowD.refl w.heap.size w)
  clear hck hK hA hca hB hcb la lb lp pa pb lpa lpb HV
  generalize cfR (atP p a) (atP p b) = x at H3 ⊢
  generalize cfR a b = y at H4 ⊢
  have H5 := Aside0.mk (fun (W : World) (g : Nat) (hg : g = W.heap.size) => or2.calls W x y g hg)
  generalize (if x ≠ 0 then x else y) = z at H5 ⊢
  generalize a.length = na at H1 H4 ⊢
  generalize b.length = nb at H2 H4 ⊢
  generalize p.length = np at H1 H2 hc ⊢
  go_enter Tryz.func108, Tryz.ntmps108
  go_wp2_with fail
  go_region_held3 (fun w' => w'.cell? ⟨gb, 0, none⟩ = some (.slice K np ck))
    (first | exact Lib.cell?_alloc_some _ hk4 | exact hk4 | exact hk3 | exact hk2 | exact hk1 | exact hc | go_keep)
    (first
      | (go_at_call 110; refine (H1.out _ (by first | exact HB.out | exact dD HB.out)).mono ?_; rintro e w1 ⟨v1, rfl, hv1, hb1⟩; clear H1; obtain ⟨Ao1, co1, rfl⟩ := Kd.R_slice hv1; have HV1 := Aside0.mk (Kd.R_reads' hv1).2.2; have hk1 := cell_keeps hb1.b hc; have HB1 := Aside0.mk (belowD_step (by first | exact HB.out | exact dD HB.out) hb1); clear hv1 hb1)
      | (go_at_call 110; refine (H2.out _ HB1.out).mono ?_; rintro e w2 ⟨v2, rfl, hv2, hb2⟩; obtain ⟨Ao2, co2, rfl⟩ := Kd.R_slice hv2; have HV2 := Aside0.mk (Kd.R_reads' hv2).2.2; have HV1b := Aside0.mk (Kd.C_below HV1.out hb2.b); have hk2 := cell_keeps hb2.b hk1; have HB2 := Aside0.mk (belowD_step HB1.out hb2); clear hv2 hb2)
      | (go_at_call 63; refine (H3.out _ _ _ _ _ HV1b.out HV2.out).mono ?_; rintro e w3 ⟨rfl, hb3⟩; clear H3; have hk3 := cell_keeps hb3.b hk2; have HB3 := Aside0.mk (belowD_step HB2.out hb3); clear hb3)
      | (go_at_call 63; refine (H4.out _ HB3.out).mono ?_; rintro e w4 ⟨rfl, hb4⟩; have hk4 := cell_keeps hb4.b hk3; have HB4 := Aside0.mk (belowD_step HB3.out hb4); clear hb4)
      | (go_at_call 109; refine (H5.out _ _ rfl).mono ?_; rintro e w5 ⟨rfl, hb5⟩; have hk5 := cell_keeps hb5.b hk4; have HB5 := Aside0.mk (belowD_step HB4.out hb5); clear hb5))
  all_goals
    go_wp2
    go_ret
    exact ⟨rfl, HB5.out⟩
/-! ### rows_Parted: function 72 -/
section
open Go.Sort
theorem sortPart.calls (gb : Nat) (K : Option Addr) (ck : Nat) (p : List Int) (v : Value) (xs : List (List V)) (w0 w : World) (hb : Below w0.heap.size w0 w) (hbox : w.heap[gb]? = some (.cells #[.slice K p.length ck] 34 (0, 0))) (hck : p.length ≤ ck) (hK : Kd.C (Kd.int .i64) w0 K p.length p)
    (h : Kd.S (Kd.slice 61 k61) 40 w w0.heap.size (fun _ => True) v xs) (hl : okR xs = true) (lp : p.length ≤ 1000000) (hp : ∀ x ∈ xs, placesIn p x = true) :
    Calls Tryz.prog 60 #[v, .func (.func 108) #[] #[.pointer (some ⟨gb, 0, none⟩)]] w fun e' w' => e' = .returned (.tuple #[]) ∧ Kd.S (Kd.slice 61 k61) 40 w' w0.heap.size (fun _ => True) v (sortBy (cfP p) xs) ∧ w.grownBy w' v.ownBlock ∧ (∀ (B : Nat) (w1 : World), B ≤ w0.heap.size → Below B w1 w → B ≤ w.heap.size → Below B w1 w') := by
  have hl' := okR_spec hl
  have eg : ∀ args w, (callFunc 108 args).run Tryz.prog w = .ok (.enter 108 args) w := enters_of Tryz.func108 (by kernel_rfl) rfl
  have hki : Kd.Heap (Kd.int .i64) := Kd.heap_int _
  have hc := sortS Tryz.sortR (Kd.slice 61 k61) rfl 40 (cfP p) (cfP_tc _) 108 #[.pointer (some ⟨gb, 0, none⟩)] eg v xs w w0.heap.size _ h (by have := hl'.1; omega) (fun x y cx cy W hx hy hMx hMy hW => by
    obtain ⟨A0, c0, rfl, hc0, hC0⟩ := M_row_reads hMx
    obtain ⟨A1, c1, rfl, hc1, hC1⟩ := M_row_reads hMy
    have hcell : W.heap[gb]? = _ := (hW gb (blk_lt hbox) (Kd.S_ne h hbox (by decide))).trans hbox
    have hKW : Kd.C (Kd.int .i64) W K p.length p := hki.C (fun k hk => (hW k (Nat.lt_of_lt_of_le hk hb.size) (fun e => by have := Kd.S_base h k e.symm; omega)).trans (hb.block k hk)) hK
    exact part1.calls gb K ck p A0 A1 c0 c1 x y W (blk_cell hcell 0) hck hKW hC0 hc0 hC1 hc1 (by have := hl'.2 x hx; omega) (by have := hl'.2 y hy; omega) lp (hp x hx) (hp y hy))
  change Calls Tryz.prog 60 _ _ _ at hc
  exact hc
set_option maxRecDepth 100000 in
set_option maxHeartbeats 4000000 in
theorem parted.calls (A0 : Option Addr) (c0 : Nat) (l : List (List V)) (K : Option Addr) (ck : Nat) (p : List Int) (w : World) (hr0 : Kd.C (Kd.slice 61 k61) w A0 l.length l) (hc0 : l.length ≤ c0) (hr1 : Kd.C (Kd.int .i64) w K p.length p) (hc1 : p.length ≤ ck) (hok : okR l = true) (lp : p.length ≤ 1000000) (hp : ∀ x ∈ l, placesIn p x = true) :
    Calls Tryz.prog 72 #[.slice A0 l.length c0, .slice K p.length ck] w fun e w' => ∃ (gs gb : Nat) (v : Value), e = .returned (.func (.func 111) #[] #[.pointer (some ⟨gs, 0, none⟩), .pointer (some ⟨gb, 0, none⟩)]) ∧
      w'.heap[gs]? = some (.cells #[v] 22 (0, 0)) ∧ w'.heap[gb]? = some (.cells #[.slice K p.length ck] 34 (0, 0)) ∧ Kd.S (Kd.slice 61 k61) 40 w' w.heap.size (fun _ => True) v (sortBy (cfP p) l) ∧ Below w.heap.size w w' := by
  have HCP := Aside0.mk (fun W (hb : Below w.heap.size w W) => rows_Copy_s.calls A0 c0 l l W (Kd.C_below hr0 hb) hc0 (by unfold rows_Copy_s.f; rw [if_pos hok]))
  have HB0 := Aside0.mk (below_alloc (Below.refl w.heap.size w) (.cells #[.slice K p.length ck] 34))
  have HX0 := Aside0.mk (blk_new w (.cells #[.slice K p.length ck] 34))
  have HS := Aside0.mk (fun (v : Value) (W : World) (hb : Below w.heap.size w W) (hx : W.heap[w.heap.size]? = some (.cells #[.slice K p.length ck] 34 (0, 0))) hS => sortPart.calls w.heap.size K ck p v l w W hb hx hc1 hr1 hS hok lp hp)
  have HL : Aside0 (l.length ≤ 1000000) := ⟨(okR_spec hok).1⟩
  clear hr0 hc0 hr1 hc1 hok lp hp
  generalize sortBy (cfP p) l = res at HS ⊢
  obtain ⟨n, hn⟩ : ∃ n, n = l.length := ⟨_, rfl⟩
  rw [← hn] at HCP ⊢
  have HN := Aside0.mk hn
  clear hn
  generalize p.length = np at HB0 HX0 HS ⊢
  go_enter Tryz.func72, Tryz.ntmps72
  go_wp2_with (first
    | (go_at_call 59; refine (HCP.out _ HB0.out).mono ?_; rintro e w2 ⟨v2, rfl, hv2, hb2⟩; obtain ⟨A2, c2, rfl⟩ := Kd.S_slice hv2; have HV2 := Aside0.mk (Kd.S_lower hv2 HB0.out.size); have HX2 := Aside0.mk (blk_below HX0.out hb2); have HB2 := Aside0.mk (below_step HB0.out hb2); clear hv2 hb2 HCP)
    | (go_at_call 60; have hbx : (w2.alloc (.cells #[.slice A2 l.length c2] 22)).heap[w2.heap.size]? = some (.cells #[.slice A2 l.length c2] 22 (0, 0)) := blk_new w2 _; have hbx6 := blk_alloc HX2.out (.cells #[.slice A2 l.length c2] 22); have hsA := Kd.S_alloc HV2.out (.cells #[.slice A2 l.length c2] 22); have hbA := below_alloc HB2.out (.cells #[.slice A2 l.length c2] 22); refine (HS.out _ _ hbA hbx6 hsA).mono ?_; rintro e w5 ⟨rfl, hv5, hg5, hb5⟩; have hn5 := Kd.S_ne hsA hbx (show 40 ≠ 22 by decide); have hn6 := Kd.S_ne hsA hbx6 (show 40 ≠ 34 by decide); have HX5 := Aside0.mk (blk_grown hbx hg5 hn5); have HX6 := Aside0.mk (blk_grown hbx6 hg5 hn6); have HV5 := Aside0.mk hv5; have HB5 := Aside0.mk (hb5 w.heap.size w (Nat.le_refl _) hbA hbA.size); clear hbx hbx6 hsA hbA hn5 hn6; clear hv5 hg5 hb5))
  go_ret
  exact ⟨_, _, _, rfl, HX5.out, HX6.out, HV5.out, HB5.out⟩
end
/-! ### rows_Parted_2: function 111 -/
section
open Go.Shelf
set_option maxRecDepth 100000 in
set_option maxHeartbeats 8000000 in
theorem parted2.calls (l gs gb c : Nat) (ad : Addr) (A : Option Addr) (K : Option Addr) (ck : Nat) (p : List Int) (s : List (List V)) (wn W : World) (hA : 0 < s.length → A = some ad)
    (hgs : wn.cell? ⟨gs, 0, none⟩ = some (.slice A s.length c)) (hgb : wn.cell? ⟨gb, 0, none⟩ = some (.slice K p.length ck)) (hsc : s.length ≤ c) (hck : p.length ≤ ck) (hS : Kd.C (Kd.slice 61 k61) wn A s.length s) (hK : Kd.C (Kd.int .i64) wn K p.length p) (hok : okR s = true) (lp : p.length ≤ 1000000) (hp : ∀ x ∈ s, placesIn p x = true)
    (hb0 : Below wn.heap.size wn W) (J Jx : List (Nat × Nat) → World → Prop) (hJ : AbidesFrom W.heap.size J)
    (hY : ∀ pre x W1, J pre W1 → pre.length < s.length → YieldAt Fence.wide 2 Tryz.prog l #[encP ad x] W1 fun e W' => (e = .returned (.bool true) ∧ J (pre ++ [x]) W' ∧ Below wn.heap.size W1 W') ∨ (e = .returned (.bool false) ∧ Jx (pre ++ [x]) W'))
    (h0 : J [] W) :
    Calls Tryz.prog 111 (#[.func (.yield l) #[] #[]] ++ #[.pointer (some ⟨gs, 0, none⟩), .pointer (some ⟨gb, 0, none⟩)]) W fun e W' => (∃ v, e = .returned v) ∧
      ((∃ xs, (xs.map (segL s) = runs (atP p) s ∧ ∀ x ∈ xs, x.1 ≤ x.2 ∧ x.2 ≤ s.length) ∧ J xs W') ∨ (∃ pre, Jx pre W')) := by
  have mixed : Tryz.prog.follows .mixedOrders = true := by kernel_rfl
  have hl := okR_spec hok
  have HAT := Aside0.mk (fun (x : List V) (hx : placesIn p x = true) (A1 : Option Addr) (c1 : Nat) (W1 : World) (hb : Below wn.heap.size wn W1) (hc1 : x.length ≤ c1) (hC : Kd.C k61 W1 A1 x.length x) => rows_At_s.grows A1 c1 x K ck p (atP p x) W1 hC hc1 (Kd.C_below hK hb) hck (by unfold rows_At_s.f; rw [if_pos ⟨lp, hx⟩]))
  have HLP : Aside0 (∀ x : List V, (atP p x).length ≤ 4611686018427387904) := ⟨fun x => by unfold atP; rw [List.length_map]; omega⟩
  have HS := Aside0.mk hS
  have HP := Aside0.mk hp
  have HA := Aside0.mk hA
  have HJA := Aside0.mk hJ
  have HY := Aside0.mk hY
  have HB0 := Aside0.mk hb0
  have H0 := Aside0.mk h0
  obtain ⟨n, hn⟩ : ∃ n, n = s.length := ⟨_, rfl⟩
  have hle : n ≤ 1000000 := by omega
  rw [← hn] at hgs hsc
  have HN := Aside0.mk hn
  generalize hnp : p.length = np at hgb HAT
  clear hA hck hS hK hok lp hp hb0 hJ hY h0 hl hn
  go_enter Tryz.func111, Tryz.ntmps111
  go_wp2
  go_loopg [4, 5] n (fun gg s4 _ wr => ∃ (i : Nat) (pre : List (Nat × Nat)), i ≤ n ∧ n - i ≤ gg ∧ s4 = .int .i64 i ∧ Aside0 (Below wn.heap.size wn wr) ∧ Aside0 (J pre wr) ∧ Aside0 (pre.length ≤ i ∧ (∀ x ∈ pre, x.1 ≤ x.2 ∧ x.2 ≤ s.length) ∧ pre.map (segL s) ++ runs (atP p) (s.drop i) = runs (atP p) s))
  case atStart => exact ⟨0, [], Nat.zero_le _, by omega, rfl, HB0, H0, ⟨Nat.le_refl _, (fun x hx => by cases hx), rfl⟩⟩
  case round =>
    clear HB0 H0
    obtain ⟨i, pre, hi, hg, rfl, HB, HJ, HPR⟩ := hrel
    have hc1 := kept_cell HB.out rfl hgs
    have hc2 := kept_cell HB.out rfl hgb
    by_cases hlt : i < n
    · have hltz : (i : Int) < (n : Int) := by omega
      go_wp2
      go_loopg [5] n (fun gg2 s5 wr => ∃ j : Nat, i < j ∧ j ≤ n ∧ n - j ≤ gg2 ∧ s5 = .int .i64 j ∧ Aside0 (Below wn.heap.size wn wr) ∧ Aside0 (J pre wr) ∧ Aside0 (∀ (m : Nat) (hm : m < s.length) (hi : i < s.length), i ≤ m → m < j → atP p s[m] = atP p s[i]))
      case atStart => exact ⟨i + 1, by omega, by omega, by omega, by go_num, HB, HJ, ⟨fun m hm hi h1 h2 => by
        have : m = i := by omega
        subst this
        rfl⟩⟩
      case round =>
        clear HB HJ hc1 hc2
        obtain ⟨j, hij, hj, hg2, rfl, HBq, HJq, HKq⟩ := hrel
        have d1 := kept_cell HBq.out rfl hgs
        have d2 := kept_cell HBq.out rfl hgb
        by_cases hjn : j < n
        · have hjz : (j : Int) < (n : Int) := by omega
          have i0 : (0 : Int) ≤ (i : Int) := by omega
          have j0 : (0 : Int) ≤ (j : Int) := by omega
          have his : i < s.length := by have := HN.out; omega
          have hjs : j < s.length := by have := HN.out; omega
          obtain ⟨ad1, Ax, cx, hAd1, x0, hlx, hCx⟩ := row_cell HS.out i his
          obtain ⟨ad2, Ay, cy, hAd2, y0, hly, hCy⟩ := row_cell HS.out j hjs
          have hAd := HA.out (by omega)
          obtain rfl : ad1 = ad := Option.some.inj (hAd1.symm.trans hAd)
          obtain rfl : ad2 = ad1 := Option.some.inj (hAd2.symm.trans hAd)
          subst hAd
          clear hAd1 hAd2
          have hjc : (j : Int) ≤ (c : Int) := by omega
          have hij2 : (i : Int) ≤ (j : Int) := by omega
          replace x0 := kept_cell HBq.out rfl x0
          replace y0 := kept_cell HBq.out rfl y0
          have HAX := Aside0.mk (fun W1 (hb : Below wn.heap.size wn W1) => HAT.out s[i] (HP.out _ (List.getElem_mem his)) Ax cx W1 hb hlx (Kd.C_below hCx hb))
          have HAY := Aside0.mk (fun W1 (hb : Below wn.heap.size wn W1) => HAT.out s[j] (HP.out _ (List.getElem_mem hjs)) Ay cy W1 hb hly (Kd.C_below hCy hb))
          have HOR := Aside0.mk (fun W1 A1 A2 c1 c2 (h1 : Kd.C k61 W1 A1 (atP p s[i]).length (atP p s[i])) (h2 : Kd.C k61 W1 A2 (atP p s[j]).length (atP p s[j])) => rows_Order.grows A1 A2 c1 c2 (atP p s[i]) (atP p s[j]) (cfR (atP p s[i]) (atP p s[j])) W1 h1 h2 (by unfold rows_Order.f; rw [if_pos ⟨HLP.out _, HLP.out _⟩]))
          have HEQ : Aside0 (cfR (atP p s[i]) (atP p s[j]) = 0 ↔ atP p s[i] = atP p s[j]) := ⟨⟨cfR_tc.same _ _, fun h => by rw [h]; exact cfR_tc.refl _⟩⟩
          generalize cfR (atP p s[i]) (atP p s[j]) = r at HOR HEQ
          generalize s[i].length = xlen at x0 HAX
          generalize s[j].length = ylen at y0 HAY
          clear hlx hly hCx hCy
          by_cases hr : r = 0
          · have hrz : (r == 0) = true := by rw [hr]; rfl
            go_wp2_with fail
            go_region_held3 (fun w' => w'.cell? ⟨gs, 0, none⟩ = some (.slice (some ad2) n c) ∧ w'.cell? ⟨gb, 0, none⟩ = some (.slice K np ck) ∧ w'.cell? (ad2.add i) = some (.slice Ax xlen cx) ∧ w'.cell? (ad2.add j) = some (.slice Ay ylen cy))
              (first | exact k3 | exact k2 | exact k1 | exact ⟨d1, d2, x0, y0⟩ | go_keep)
              (first
            | (go_at_call 110; refine (HAX.out _ (by first | exact HBq.out | exact yD HBq.out)).mono ?_; rintro e w1 ⟨v1, rfl, hv1, hb1⟩; clear HAX; obtain ⟨Ao1, co1, rfl⟩ := Kd.R_slice hv1; have HV1 := Aside0.mk (Kd.R_reads' hv1).2.2; have k1 := And.intro (cell_keeps hb1.b d1) (And.intro (cell_keeps hb1.b d2) (And.intro (cell_keeps hb1.b x0) (cell_keeps hb1.b y0))); have HB1 := Aside0.mk (below_step (by first | exact HBq.out | exact yD HBq.out) hb1.b); have HW1 := Aside0.mk (below_step (by first | exact Below.refl wr.heap.size wr | exact yD (Below.refl wr.heap.size wr)) hb1.b); clear hv1 hb1)
            | (go_at_call 110; refine (HAY.out _ HB1.out).mono ?_; rintro e w2 ⟨v2, rfl, hv2, hb2⟩; obtain ⟨Ao2, co2, rfl⟩ := Kd.R_slice hv2; have HV2 := Aside0.mk (Kd.R_reads' hv2).2.2; have HV1b := Aside0.mk (Kd.C_below HV1.out hb2.b); have k2 := And.intro (cell_keeps hb2.b k1.1) (And.intro (cell_keeps hb2.b k1.2.1) (And.intro (cell_keeps hb2.b k1.2.2.1) (cell_keeps hb2.b k1.2.2.2))); have HB2 := Aside0.mk (below_step HB1.out hb2.b); have HW2 := Aside0.mk (below_step HW1.out hb2.b); clear hv2 hb2)
            | (go_at_call 63; refine (HOR.out _ _ _ _ _ HV1b.out HV2.out).mono ?_; rintro e w3 ⟨rfl, hb3⟩; have k3 := And.intro (cell_keeps hb3.b k2.1) (And.intro (cell_keeps hb3.b k2.2.1) (And.intro (cell_keeps hb3.b k2.2.2.1) (cell_keeps hb3.b k2.2.2.2))); have HB3 := Aside0.mk (below_step HB2.out hb3.b); have HW3 := Aside0.mk (below_step HW2.out hb3.b); clear hb3))
            all_goals
              go_wp2
              go_roundg (n - (j + 1))
              case measure => omega
              case rel => exact ⟨j + 1, by omega, by omega, by omega, by go_num, HB3, ⟨abide_below HJA.out HJq.out HW3.out⟩, ⟨fun m hm hi h1 h2 => by
                by_cases e : m = j
                · subst e
                  exact (HEQ.out.1 hr).symm
                · exact HKq.out m hm hi h1 (by omega)⟩⟩
          · have hrz : (r == 0) = false := by simpa using hr
            go_wp2_with fail
            go_region_held3 (fun w' => w'.cell? ⟨gs, 0, none⟩ = some (.slice (some ad2) n c) ∧ w'.cell? ⟨gb, 0, none⟩ = some (.slice K np ck) ∧ w'.cell? (ad2.add i) = some (.slice Ax xlen cx) ∧ w'.cell? (ad2.add j) = some (.slice Ay ylen cy))
              (first | exact k3 | exact k2 | exact k1 | exact ⟨d1, d2, x0, y0⟩ | go_keep)
              (first
            | (go_at_call 110; refine (HAX.out _ (by first | exact HBq.out | exact yD HBq.out)).mono ?_; rintro e w1 ⟨v1, rfl, hv1, hb1⟩; clear HAX; obtain ⟨Ao1, co1, rfl⟩ := Kd.R_slice hv1; have HV1 := Aside0.mk (Kd.R_reads' hv1).2.2; have k1 := And.intro (cell_keeps hb1.b d1) (And.intro (cell_keeps hb1.b d2) (And.intro (cell_keeps hb1.b x0) (cell_keeps hb1.b y0))); have HB1 := Aside0.mk (below_step (by first | exact HBq.out | exact yD HBq.out) hb1.b); have HW1 := Aside0.mk (below_step (by first | exact Below.refl wr.heap.size wr | exact yD (Below.refl wr.heap.size wr)) hb1.b); clear hv1 hb1)
            | (go_at_call 110; refine (HAY.out _ HB1.out).mono ?_; rintro e w2 ⟨v2, rfl, hv2, hb2⟩; obtain ⟨Ao2, co2, rfl⟩ := Kd.R_slice hv2; have HV2 := Aside0.mk (Kd.R_reads' hv2).2.2; have HV1b := Aside0.mk (Kd.C_below HV1.out hb2.b); have k2 := And.intro (cell_keeps hb2.b k1.1) (And.intro (cell_keeps hb2.b k1.2.1) (And.intro (cell_keeps hb2.b k1.2.2.1) (cell_keeps hb2.b k1.2.2.2))); have HB2 := Aside0.mk (below_step HB1.out hb2.b); have HW2 := Aside0.mk (below_step HW1.out hb2.b); clear hv2 hb2)
            | (go_at_call 63; refine (HOR.out _ _ _ _ _ HV1b.out HV2.out).mono ?_; rintro e w3 ⟨rfl, hb3⟩; have k3 := And.intro (cell_keeps hb3.b k2.1) (And.intro (cell_keeps hb3.b k2.2.1) (And.intro (cell_keeps hb3.b k2.2.2.1) (cell_keeps hb3.b k2.2.2.2))); have HB3 := Aside0.mk (below_step HB2.out hb3.b); have HW3 := Aside0.mk (below_step HW2.out hb3.b); clear hb3))
            all_goals
              have HJ3 := Aside0.mk (abide_below HJA.out HJq.out HW3.out)
              have e1 := k3.1
              go_upto_region 5 with (fail)
              obtain ⟨fn, tmps, assign, body, hy, hR⟩ := HY.out pre (i, j) _ HJ3.out (by have := HPR.out.1; have := HN.out; omega)
              dsimp only [encP] at hy
              refine (wpIn_wide (n := 3)).1 ?_
              gi_wp2
              refine hR.mono ?_
              rintro e W4 (⟨rfl, hJ4, hk4⟩ | ⟨rfl, hJx4⟩)
              · gi_wp2
                go_wp2
                go_roundg (n - j)
                case measure => omega
                case rel =>
                  refine ⟨j, pre ++ [(i, j)], hj, by omega, rfl, ⟨HB3.out.trans hk4⟩, ⟨hJ4⟩, ⟨?_, ?_, ?_⟩⟩
                  · rw [List.length_append, List.length_singleton]
                    have := HPR.out.1
                    omega
                  · intro x hx
                    rcases List.mem_append.1 hx with h | h
                    · exact HPR.out.2.1 x h
                    · rw [List.mem_singleton.1 h]
                      exact ⟨by omega, by have := HN.out; omega⟩
                  · rw [List.map_append, List.append_assoc, ← HPR.out.2.2, runs_seg (atP p) s i j his (by have := HN.out; omega) hij (fun m hm h1 h2 => HKq.out m hm his h1 h2) (fun h e => hr (HEQ.out.2 e.symm))]
                    rfl
              · gi_wp2
                go_wp2
                refine bodyPost_ret (results_none rfl _ _ _) rfl ?_
                exact ⟨⟨_, rfl⟩, .inr ⟨pre ++ [(i, j)], hJx4⟩⟩
        · have hjz3 : ¬ (j : Int) < (n : Int) := by omega
          have hjz2 : decide ((j : Int) < (n : Int)) = false := decide_eq_false hjz3
          have his : i < s.length := by have := HN.out; omega
          have hAd := HA.out (by omega)
          subst hAd
          have hjc : (j : Int) ≤ (c : Int) := by omega
          have hij2 : (i : Int) ≤ (j : Int) := by omega
          go_wp2_with fail
          go_quiet (fail)
          have HBq2 := Aside0.mk (yN HBq.out nq)
          have HJ3 := Aside0.mk (abide_below HJA.out HJq.out (yN (Below.refl wr.heap.size wr) nq))
          have e1 : (wr.drewN nq).cell? ⟨gs, 0, none⟩ = some (.slice (some ad) n c) := d1
          go_upto_region 5 with (fail)
          obtain ⟨fn, tmps, assign, body, hy, hR⟩ := HY.out pre (i, j) _ HJ3.out (by have := HPR.out.1; have := HN.out; omega)
          dsimp only [encP] at hy
          refine (wpIn_wide (n := 3)).1 ?_
          gi_wp2
          refine hR.mono ?_
          rintro e W4 (⟨rfl, hJ4, hk4⟩ | ⟨rfl, hJx4⟩)
          · gi_wp2
            go_wp2
            go_roundg (n - j)
            case measure => omega
            case rel =>
              refine ⟨j, pre ++ [(i, j)], hj, by omega, rfl, ⟨HBq2.out.trans hk4⟩, ⟨hJ4⟩, ⟨?_, ?_, ?_⟩⟩
              · rw [List.length_append, List.length_singleton]
                have := HPR.out.1
                omega
              · intro x hx
                rcases List.mem_append.1 hx with h | h
                · exact HPR.out.2.1 x h
                · rw [List.mem_singleton.1 h]
                  exact ⟨by omega, by have := HN.out; omega⟩
              · rw [List.map_append, List.append_assoc, ← HPR.out.2.2, runs_seg (atP p) s i j his (by have := HN.out; omega) hij (fun m hm h1 h2 => HKq.out m hm his h1 h2) (fun h => absurd h (by have := HN.out; omega))]
                rfl
          · gi_wp2
            go_wp2
            refine bodyPost_ret (results_none rfl _ _ _) rfl ?_
            exact ⟨⟨_, rfl⟩, .inr ⟨pre ++ [(i, j)], hJx4⟩⟩
    · have hltz : decide (i < n) = false := by simpa using hlt
      have HE : Aside0 (pre.map (segL s) = runs (atP p) s) := ⟨by
        have h := HPR.out.2.2
        rw [List.drop_of_length_le (show s.length ≤ i by have := HN.out; omega)] at h
        rw [← h]
        exact (List.append_nil _).symm⟩
      go_wp2
      go_end0
      exact ⟨⟨_, rfl⟩, .inl ⟨pre, ⟨HE.out, HPR.out.2.1⟩, HJ.out⟩⟩
end
/-! ### api_Value_107: function 107 -/
section
open Go.Shelf
attribute [local go_sem] Oper.semAt_some
set_option maxRecDepth 100000 in
set_option maxHeartbeats 4000000 in
theorem appendSeq.calls (gs gb c : Nat) (ad : Addr) (A : Option Addr) (K : Option Addr) (ck : Nat) (p : List Int) (s : List (List V)) (w : World) (hA : 0 < s.length → A = some ad)
    (hgs : w.cell? ⟨gs, 0, none⟩ = some (.slice A s.length c)) (hgb : w.cell? ⟨gb, 0, none⟩ = some (.slice K p.length ck)) (hsc : s.length ≤ c) (hck : p.length ≤ ck) (hS : Kd.C (Kd.slice 61 k61) w A s.length s) (hK : Kd.C (Kd.int .i64) w K p.length p) (hok : okR s = true) (lp : p.length ≤ 1000000) (hp : ∀ x ∈ s, placesIn p x = true) :
    Calls Tryz.prog 107 #[.slice none 0 0, .func (.func 111) #[] #[.pointer (some ⟨gs, 0, none⟩), .pointer (some ⟨gb, 0, none⟩)]] w fun e W' => ∃ (v : Value) (xs : List (Nat × Nat)), e = .returned v ∧
      W'.ownsRow w.heap.size 22 1 v xs.length (xs.map (encP ad)) ∧ xs.map (segL s) = runs (atP p) s ∧ (∀ x ∈ xs, x.1 ≤ x.2 ∧ x.2 ≤ s.length) ∧ Below w.heap.size w W' := by
  obtain ⟨i0, hi, hz0, hz1, hz2⟩ := info_parts info22
  have bO := Boxed.new w 55 (.slice none 0 0)
  have hB0 : Below w.heap.size w (w.alloc (.cells #[.slice none 0 0] 55)) := (Below.refl _ w).alloc (Nat.le_refl _) _
  have hsl := (okR_spec hok).1
  refine (callsIn_wide (n := 4)).1 ?_
  refine callsIn_of_wp_marks Tryz.func107 rfl trivial ?_ rfl
  simp only [Tryz.ntmps107, List.size_toArray, List.length_cons, List.length_nil, Nat.reduceAdd, Nat.reduceSub, Array.replicate_succ, Array.replicate_zero, List.push_toArray, List.append_toArray, List.nil_append, List.cons_append]
  gi_wp2
  refine wpIn_rangeFunc_ownG rfl (by omega) (gf := 111) (lb := #[.pointer (some ⟨gs, 0, none⟩), .pointer (some ⟨gb, 0, none⟩)]) rfl trivial (enters_of Tryz.func111 (by kernel_rfl) rfl)
    (encs := fun x : Nat × Nat => #[encP ad x]) (Kp := Below w.heap.size) (S := fun xs => xs.map (segL s) = runs (atP p) s ∧ ∀ x ∈ xs, x.1 ≤ x.2 ∧ x.2 ≤ s.length) (Sp := fun _ => True) (N := s.length) (w0 := w)
    (fun l J Jx W hW hJ _ hY h0 => callsIn_wide.2 ((parted2.calls l gs gb c ad A K ck p s w W hA hgs hgb hsc hck hS hK hok lp hp hW J Jx hJ hY h0).mono (by
      rintro e W' ⟨hv, h⟩
      exact ⟨hv, h.imp (fun h => h) (fun ⟨pre, h⟩ => ⟨pre, trivial, h⟩)⟩)))
    belowK_t (belowK_b (by simp)) hB0 (fun _ => rfl)
    (fun pre W => (∃ v, Boxed W w.heap.size 55 v ∧ W.ownsRow w.heap.size 22 1 v pre.length (pre.map (encP ad)) ∧ True) ∧ Below w.heap.size w W)
    (fun _ _ _ => False)
    (OwnFrom.and (Own.from (holdsRow_own w.heap.size w.heap.size 55 22 1 (fun pre : List (Nat × Nat) => pre.length) (fun pre => pre.map (encP ad)) (fun _ _ => True)) _) (ownFrom_below (Nat.le_refl _) (by simp)))
    (fun _ _ _ _ _ hs _ _ => hs)
    ⟨⟨_, bO, World.ownsRow_nil _ _ _ _, trivial⟩, hB0⟩
    (fun x => { tmps := #[.slice none 0 0, .func (.func 111) #[] #[.pointer (some ⟨gs, 0, none⟩), .pointer (some ⟨gb, 0, none⟩)], .pointer (some ⟨w.heap.size, 0, none⟩), undef, .slice none 0 0, encP ad x, .func (.func 111) #[] #[.pointer (some ⟨gs, 0, none⟩), .pointer (some ⟨gb, 0, none⟩)], encP ad x, undef, undef, undef, undef, undef], defers := [] }) ?assign ?body ?done ?stop
  case assign =>
    intro l x W K hK
    gi_wp2
    exact hK
  case body =>
    rintro l pre x W ⟨⟨v, hv, hrow, _⟩, hB⟩ hlt
    have hc := hv.cell
    simp only [encP]
    gi_wp2_with (gi_at_builtin; refine wpListIn_append_own _ rfl _ _ 55 rfl w.heap.size 22 i0 (.slice none 0 0) 1 24 Tryz.underlying55 hi hz0 hz1 hz2 rfl (by decide) _ _ _ rfl (hrow.alloc _) ⟨W.heap.size, 0, none⟩ 1 1 [.slice (some (ad.add x.1)) (x.2 - x.1) (x.2 - x.1)] rfl rfl (cell_one_new _ _ _) (by simp [Value.oneCell']) (by unfold maxLen; omega) (by omega) (by have := hB.size; simp; omega) ?_; intro v' w1 hown' hgrow _; obtain ⟨g', cap', rfl⟩ := ownsRow_succ hown'; obtain ⟨hv1, hv2, hr2, hk2, hb2⟩ := hv.appended (by decide) hrow hB.size (Nat.le_refl _) hown' hgrow; have hc1 := hv1.cell; have hf1 := hv1.frozen)
    exact ⟨hk2.from _, hb2, ⟨_, hv2, by rw [List.length_append, List.map_append]; exact hr2, trivial⟩, hB.trans hb2⟩
  case done =>
    rintro D ys W hD hS2 ⟨⟨v, hv, hrow, _⟩, hB⟩ hK2
    have hc := hv.cell
    gi_wp2
    refine ⟨by simp, .inl ⟨_, _, rfl, run_takeDeferred hK2, ?_⟩⟩
    refine ⟨_, results_tmp rfl _ _ _, v, ys, rfl, ownsRow_putObj hrow _ hK2 rfl, hS2.1, hS2.2, hB.trans (belowK_b (w := w) (Nat.le_refl _) W D _ _ (by simp at hD; omega) hK2 rfl rfl)⟩
  case stop =>
    rintro D c pre W _ _ h _
    exact h.elim
end
set_option maxHeartbeats 2000000 in
theorem collect.calls (gs gb c : Nat) (ad : Addr) (A : Option Addr) (K : Option Addr) (ck : Nat) (p : List Int) (s : List (List V)) (w : World) (hA : 0 < s.length → A = some ad)
    (hgs : w.cell? ⟨gs, 0, none⟩ = some (.slice A s.length c)) (hgb : w.cell? ⟨gb, 0, none⟩ = some (.slice K p.length ck)) (hsc : s.length ≤ c) (hck : p.length ≤ ck) (hS : Kd.C (Kd.slice 61 k61) w A s.length s) (hK : Kd.C (Kd.int .i64) w K p.length p) (hok : okR s = true) (lp : p.length ≤ 1000000) (hp : ∀ x ∈ s, placesIn p x = true) :
    Calls Tryz.prog 71 #[.func (.func 111) #[] #[.pointer (some ⟨gs, 0, none⟩), .pointer (some ⟨gb, 0, none⟩)]] w fun e W' => ∃ (v : Value) (xs : List (Nat × Nat)), e = .returned v ∧
      W'.ownsRow w.heap.size 22 1 v xs.length (xs.map (encP ad)) ∧ xs.map (segL s) = runs (atP p) s ∧ (∀ x ∈ xs, x.1 ≤ x.2 ∧ x.2 ≤ s.length) ∧ Below w.heap.size w W' := by
  have HC := Aside0.mk (appendSeq.calls gs gb c ad A K ck p s w hA hgs hgb hsc hck hS hK hok lp hp)
  clear hA hgs hgb hsc hck hS hK hok lp hp
  go_enter Tryz.func71, Tryz.ntmps71
  go_wp2_with (go_at_call 107; refine HC.out.mono ?_; rintro e w1 ⟨v1, xs1, rfl, h1, h2, h3, h4⟩; have H1 := Aside0.mk h1; have H2 := Aside0.mk h2; have H3 := Aside0.mk h3; have H4 := Aside0.mk h4; clear h1 h2 h3 h4)
  go_ret
  exact ⟨_, _, rfl, H1.out, H2.out, H3.out, H4.out⟩
/-- headers cut out of one row, as a row of rows -/
theorem N_cuts {B : Nat} {w W' : World} {ad : Addr} {A : Option Addr} {v : Value} {s : List (List V)} {xs : List (Nat × Nat)} (hA : 0 < s.length → A = some ad)
  (hF : Kd.F (Kd.slice 61 k61) w (fun k => B ≤ k) A s.length s) (hB : B ≤ w.heap.size) (hown : W'.ownsRow w.heap.size 22 1 v xs.length (xs.map (encP ad))) (hx : ∀ x ∈ xs, x.1 ≤ x.2 ∧ x.2 ≤ s.length) (hs : 0 < s.length ∨ xs = []) (hb : Below w.heap.size w W') :
  Kd.N (Kd.slice 40 (Kd.slice 61 k61)) 22 W' w.heap.size (fun k => B ≤ k) v (xs.map (segL s)) := by
 refine ⟨fun k hk => ?_, xs.map (fun x => [encP ad x]), by simp, ⟨fun k hk => hk.symm, xs.map (encP ad), by rw [List.length_map]; exact hown, ⟨by rw [List.length_map, List.length_map]; exact (Nat.mul_one _).symm, fun j p hj => ?_⟩⟩, fun j x cc hx1 hc1 => ?_⟩
 ·rcases hown.2 with ⟨rfl, _⟩ | ⟨g, cap, cur, rfl, hg, _, _⟩
  ·cases hk
  ·have : g = k := Option.some.inj hk
   omega
 ·rw [List.getElem?_map] at hj
  obtain ⟨y, hy, rfl⟩ := Option.map_eq_some_iff.1 hj
  have hj2 := (List.getElem?_eq_some_iff.1 hy)
  obtain ⟨hjl, rfl⟩ := hj2
  have e : (List.drop (j * 1) (xs.map (encP ad))).take 1 = [encP ad xs[j]] := by
   rw [Nat.mul_one, List.drop_eq_getElem_cons (by rw [List.length_map]; exact hjl), List.take_succ_cons, List.getElem_map]
   rfl
  show (List.drop (j * 1) (xs.map (encP ad))).take 1 = [encP ad xs[j]] ∧ ((List.drop (j * 1) (xs.map (encP ad))).take 1).length = 1 ∧ ∀ u ∈ (List.drop (j * 1) (xs.map (encP ad))).take 1, u.oneCell' = true
  rw [e]
  exact ⟨rfl, rfl, fun u hu => by rw [List.mem_singleton.1 hu]; rfl⟩
 ·rw [List.getElem?_map] at hx1 hc1
  obtain ⟨y, hy, rfl⟩ := Option.map_eq_some_iff.1 hx1
  rw [hy] at hc1
  obtain rfl := Option.some.inj hc1
  have hy2 := hx y (List.mem_of_getElem? hy)
  have hpos : 0 < s.length := hs.resolve_right (fun e => by rw [e] at hy; cases hy)
  have hl : (segL s y).length = y.2 - y.1 := by
   unfold segL
   rw [List.length_take, List.length_drop]
   omega
  have h1 := Kd.F_cut (Kd.F_below (Kd.F_bound hF) hb) (m := y.1) (c := s.length + 1) (by omega) (by omega)
  rw [if_neg (by omega), hA hpos] at h1
  have h2 := Kd.F_take h1 (m := y.2 - y.1) (by rw [List.length_drop]; omega)
  have h3 : Kd.F (Kd.slice 61 k61) W' (fun k => B ≤ k ∧ some k ≠ v.ownBlock) (some (ad.add y.1)) (segL s y).length (segL s y) := by
   refine Kd.F_mono (A := some (ad.add y.1)) (n := (segL s y).length) (xs := segL s y) (ok := fun k => B ≤ k ∧ k < w.heap.size) ?_ (fun k hk => ⟨hk.1, fun e => ?_⟩)
   ·have e1 : (some ad).map (fun x => x.add (y.1 * (Kd.slice 61 k61).sz)) = some (ad.add y.1) := by
     show some (ad.add (y.1 * 1)) = _
     rw [Nat.mul_one]
    rw [e1] at h2
    exact h2
   ·rcases hown.2 with ⟨rfl, _⟩ | ⟨g, cap, cur, rfl, hg, _, _⟩
    ·cases e
    ·have : k = g := Option.some.inj e
     have := hk.2
     omega
  have h4 := Kd.FK_slice_mk (e := 40) (c := y.2 - y.1) (by rw [hl]; exact Nat.le_refl _) h3
  rw [hl] at h4
  exact h4
end Go.Proofs.YtmhobbdedmjmnaaGreatDoor.Q
end
section
/- Each function reached is shown to return what the plain function beside it computes, wherever that is defined (written by a program of ours for this seat). -/
namespace Go.Proofs.YtmhobbdedmjmnaaGreatDoor.Q
open Go.RowKit Go.Proofs.YtmhobbdedmjmnaaGreatDoorW.PrintWords Go.Proofs.YtmhobbdedmjmnaaGreatDoorW.PrintLast Go.Proofs.YtmhobbdedmjmnaaGreatDoorW.PrintMore
attribute [local go_sem] max2_int min2_int max_two min_two max_three min_three max_four min_four   -- for this text's walks alone
set_option linter.unusedVariables false
set_option linter.unusedSimpArgs false
theorem groupsLaid.calls (l0 : List (List V)) (A1 : Option Addr) (c1 : Nat) (l1 : List Int) (w : World) (gs gb n c : Nat) (A : Option Addr) (W : World) (hr1 : Kd.C (Kd.int .i64) w A1 l1.length l1) (hc1 : l1.length ≤ c1) (hok : okR l0 = true) (lp : l1.length ≤ 1000000) (hp : ∀ x ∈ l0, placesIn l1 x = true) (hb : Below w.heap.size w W)
    (hgs : W.heap[gs]? = some (.cells #[.slice A n c] 22 (0, 0))) (hgb : W.heap[gb]? = some (.cells #[.slice A1 l1.length c1] 34 (0, 0))) (hS : Kd.S (Kd.slice 61 k61) 40 W w.heap.size (fun _ => True) (.slice A n c) (sortBy (cfP l1) l0)) :
    Calls Tryz.prog 71 #[.func (.func 111) #[] #[.pointer (some ⟨gs, 0, none⟩), .pointer (some ⟨gb, 0, none⟩)]] W fun e w' => ∃ v : Value, e = .returned v ∧ Kd.N (Kd.slice 40 (Kd.slice 61 k61)) 22 w' w.heap.size (fun k => w.heap.size ≤ k) v ((headsR l1 l0).map (groupR l1 l0)) ∧ Below w.heap.size w w' := by
  have hlen : (sortBy (cfP l1) l0).length = l0.length := (sortBy_perm _ _).length_eq
  have hmem : ∀ x, x ∈ sortBy (cfP l1) l0 ↔ x ∈ l0 := fun x => sortBy_mem
  have hok2 : okR (sortBy (cfP l1) l0) = true := by
    have h := okR_spec hok
    unfold okR
    rw [Bool.and_eq_true, decide_eq_true_eq, hlen, List.all_eq_true]
    exact ⟨h.1, fun x hx => decide_eq_true (h.2 x ((hmem x).1 hx))⟩
  obtain ⟨hn, hnc, hC⟩ := Kd.S_reads' hS
  obtain ⟨ad, hA⟩ : ∃ ad, 0 < (sortBy (cfP l1) l0).length → A = some ad := by
    by_cases h0 : 0 < (sortBy (cfP l1) l0).length
    · obtain ⟨g, cap, e, _⟩ := Kd.S_form hS h0
      injection e with e1 _ _
      exact ⟨_, fun _ => e1⟩
    · exact ⟨⟨0, 0, none⟩, fun h => absurd h h0⟩
  subst hn
  refine (collect.calls gs gb c ad A A1 c1 l1 _ W hA (blk_cell hgs 0) (blk_cell hgb 0) hnc hc1 hC (Kd.C_below hr1 hb) hok2 lp (fun x hx => hp x ((hmem x).1 hx))).mono ?_
  rintro e w' ⟨v, xs, rfl, h1, h2, h3, h4⟩
  refine ⟨v, rfl, ?_, below_step hb h4⟩
  have hz : 0 < (sortBy (cfP l1) l0).length ∨ xs = [] := by
    by_cases h0 : 0 < (sortBy (cfP l1) l0).length
    · exact .inl h0
    · refine .inr ?_
      rw [List.eq_nil_of_length_eq_zero (Nat.eq_zero_of_not_pos h0)] at h2
      exact List.map_eq_nil_iff.1 h2
  have h5 := N_cuts hA (Kd.F_mono (Kd.S_F (Kd.S_bound hS)) (fun k hk => hk.2.1)) hb.size h1 h3 hz h4
  rw [h2, runs_groups] at h5
  exact Kd.N_lower h5 hb.size
def rows_Groups.f (l0 : List (List V)) (l1 : List Int) : Option (List (List (List V)) × Int) := if smallE [l0] = 0 then (if okR l0 = true ∧ l1.length ≤ 1000000 then (if placesB l0 l1 = true then some ((headsR l1 l0).map (groupR l1 l0), 0) else some ([], 1)) else none) else some ([], smallE [l0])
set_option maxRecDepth 100000 in
set_option maxHeartbeats 4000000 in
theorem rows_Groups.calls (A0 : Option Addr) (c0 : Nat) (l0 : List (List V)) (A1 : Option Addr) (c1 : Nat) (l1 : List Int) (r1 : List (List (List V))) (r2 : Int) (w : World) (hr0 : Kd.C (Kd.slice 61 k61) w A0 l0.length l0) (hc0 : l0.length ≤ c0) (hr1 : Kd.C (Kd.int .i64) w A1 l1.length l1) (hc1 : l1.length ≤ c1) (h : rows_Groups.f l0 l1 = some (r1, r2)) :
    Calls Tryz.prog 36 #[.slice A0 l0.length c0, .slice A1 l1.length c1] w fun e w' => ∃ v0_ : Value, e = .returned (.tuple #[v0_, .int .i64 r2]) ∧ Kd.N (Kd.slice 40 (Kd.slice 61 k61)) 22 w' w.heap.size (fun k => w.heap.size ≤ k) v0_ r1 ∧ Below w.heap.size w w' := by
  unfold rows_Groups.f at h
  have HS := Aside0.mk (fun W hb => small_one A0 c0 l0 w W hr0 hc0 hb)
  by_cases hs : smallE [l0] = 0
  case neg =>
    rw [if_neg hs] at h
    simp only [Option.some.injEq, Prod.mk.injEq] at h
    obtain ⟨rfl, rfl⟩ := h
    have hs2 : (smallE [l0] != 0) = true := by simpa using hs
    clear hr0 hc0 hr1 hc1 hs
    generalize smallE [l0] = x at HS hs2 ⊢
    generalize l0.length = n0 at HS ⊢
    generalize l1.length = n1 at *
    go_enter Tryz.func36, Tryz.ntmps36
    go_wp2_with (go_at_call 52; refine (HS.out _ (Below.refl _ _)).mono ?_; rintro e w1 ⟨rfl, hb1⟩)
    go_ret2
    exact ⟨_, rfl, Kd.N_nil _ _ _ _ _, hb1⟩
  rw [if_pos hs] at h
  by_cases hk : okR l0 = true ∧ l1.length ≤ 1000000
  case neg => rw [if_neg hk] at h; cases h
  rw [if_pos hk] at h
  rw [hs] at HS
  have HPL := Aside0.mk (fun W (hb : Below w.heap.size w W) => rows_places.calls A0 c0 l0 A1 c1 l1 (placesB l0 l1) W (Kd.C_below hr0 hb) hc0 (Kd.C_below hr1 hb) hc1 (by
    unfold rows_places.f
    have := (okR_spec hk.1).1
    have := hk.2
    rw [if_pos ⟨by omega, by omega⟩]))
  cases hpb : placesB l0 l1 with
  | false =>
    rw [hpb, if_neg (by decide)] at h
    simp only [Option.some.injEq, Prod.mk.injEq] at h
    obtain ⟨rfl, rfl⟩ := h
    rw [hpb] at HPL
    clear hr0 hc0 hr1 hc1 hs hk hpb
    generalize l0.length = n0 at HS HPL ⊢
    generalize l1.length = n1 at *
    go_enter Tryz.func36, Tryz.ntmps36
    go_wp2_with (first
      | (go_at_call 52; refine (HS.out _ (Below.refl _ _)).mono ?_; rintro e w1 ⟨rfl, hb1⟩; have HB1 := Aside0.mk hb1; clear hb1)
      | (go_at_call 58; refine (HPL.out _ HB1.out).mono ?_; rintro e w2 ⟨rfl, hb2⟩; have HB2 := Aside0.mk (below_step HB1.out hb2); clear hb2))
    go_ret2
    exact ⟨_, rfl, Kd.N_nil _ _ _ _ _, HB2.out⟩
  | true =>
    rw [hpb, if_pos rfl] at h
    simp only [Option.some.injEq, Prod.mk.injEq] at h
    obtain ⟨rfl, rfl⟩ := h
    rw [hpb] at HPL
    have hpi : ∀ x ∈ l0, placesIn l1 x = true := fun x hx => placesIn_mk fun q hq => by
      unfold placesB at hpb
      rw [Bool.not_eq_true'] at hpb
      have h1 := (List.any_eq_false.1 hpb) x hx
      rw [Bool.not_eq_true] at h1
      have h2 := (List.any_eq_false.1 h1) q hq
      rw [Bool.not_eq_true, Bool.or_eq_false_iff, decide_eq_false_iff_not, decide_eq_false_iff_not] at h2
      omega
    have HPA := Aside0.mk (fun W (hb : Below w.heap.size w W) => parted.calls A0 c0 l0 A1 c1 l1 W (Kd.C_below hr0 hb) hc0 (Kd.C_below hr1 hb) hc1 hk.1 hk.2 hpi)
    have HCO := Aside0.mk (fun (gs gb n c : Nat) (A : Option Addr) (W : World) (hb : Below w.heap.size w W) hgs hgb hS => groupsLaid.calls l0 A1 c1 l1 w gs gb n c A W hr1 hc1 hk.1 hk.2 hpi hb hgs hgb hS)
    clear hr0 hc0 hr1 hc1 hs hk hpb hpi
    generalize (headsR l1 l0).map (groupR l1 l0) = res at HCO ⊢
    generalize l0.length = n0 at HS HPL HPA ⊢
    generalize l1.length = n1 at *
    go_enter Tryz.func36, Tryz.ntmps36
    go_wp2_with (first
      | (go_at_call 52; refine (HS.out _ (Below.refl _ _)).mono ?_; rintro e w1 ⟨rfl, hb1⟩; have HB1 := Aside0.mk hb1; clear hb1)
      | (go_at_call 58; refine (HPL.out _ HB1.out).mono ?_; rintro e w2 ⟨rfl, hb2⟩; have HB2 := Aside0.mk (below_step HB1.out hb2); clear hb2)
      | (go_at_call 72; refine (HPA.out _ HB2.out).mono ?_; rintro e w3 ⟨gs, gb, v3, rfl, hgs, hgb, hS3, hb3⟩; obtain ⟨A3, c3, rfl⟩ := Kd.S_slice hS3; have HB3 := Aside0.mk (below_step HB2.out hb3); have HC3 := Aside0.mk (HCO.out _ _ _ _ _ _ HB3.out hgs hgb (Kd.S_lower hS3 HB2.out.size)); clear hgs hgb hS3 hb3)
      | (go_at_call 71; refine HC3.out.mono ?_; rintro e w4 ⟨v4, rfl, hv4, hb4⟩; have HV4 := Aside0.mk hv4; have HB4 := Aside0.mk hb4; clear hv4 hb4))
    go_ret2
    exact ⟨_, rfl, HV4.out, HB4.out⟩
def tacticianref02_At.l0 : Nat → List (S61) → List Int → List (S61) → Int → Option ((List (S61)))
  | 0, _, _, _, _ => none
  | k + 1, x0, x1, x5, x6 => if x6 < (x1.length : Int) then (if 0 ≤ x6 then (if 0 ≤ (rd x1 x6) then (if (rd x1 x6) < (x0.length : Int) then (if x5.length < 4398046511104 then (tacticianref02_At.l0 k x0 x1 (x5 ++ [(⟨(rd_T61 x0 (rd x1 x6)).f0, (rd_T61 x0 (rd x1 x6)).f1, (rd_T61 x0 (rd x1 x6)).f2⟩ : S61)]) (wrap64 (x6 + 1))) else (none)) else (none)) else (none)) else (none)) else (some x5)
def tacticianref02_At.f (k : Nat) (l0 : List (S61)) (l1 : List Int) : Option ((List (S61))) := tacticianref02_At.l0 k l0 l1 ([] : List (S61)) 0
set_option maxHeartbeats 8000000 in
set_option maxRecDepth 100000 in
theorem tacticianref02_At.calls (k : Nat) (A0 : Option Addr) (c0 : Nat) (l0 : List (S61)) (A1 : Option Addr) (c1 : Nat) (l1 : List Int) (r : List (S61)) (w : World) (hr0 : Kd.C k61 w A0 l0.length l0) (hc0 : l0.length ≤ c0) (hr1 : Kd.C (Kd.int .i64) w A1 l1.length l1) (hc1 : l1.length ≤ c1) (h : tacticianref02_At.f k l0 l1 = some r) :
  Calls Tryz.prog 47 #[.slice A0 l0.length c0, .slice A1 l1.length c1] w fun e w' => ∃ v0_ : Value, e = .returned (v0_) ∧ Kd.R k61 61 w' w.heap.size (fun _ => True) v0_ r ∧ Below w.heap.size w w' := by
 have hu61 := Tryz.underlying61
 have HR0 := Aside0.mk hr0
 have HC0 := Aside0.mk hc0
 clear hr0 hc0
 have HR1 := Aside0.mk hr1
 have HC1 := Aside0.mk hc1
 clear hr1 hc1
 have HB := Aside0.mk (Below.refl w.heap.size w)
 have H : (tacticianref02_At.l0 k l0 l1 ([] : List (S61)) 0) = some r := h
 clear h
 have H' := Aside0.mk H
 clear H
 go_enter Tryz.func47, Tryz.ntmps47
 go_wp2
 go_loopg [5, 6] k (fun kq v5 v6 w' => ∃ (x5_1 : List (S61)) (x6_1 : Int), v6 = .int .i64 x6_1 ∧ Aside0 (tacticianref02_At.l0 kq l0 l1 x5_1 x6_1 = some r) ∧ Aside0 (kq ≤ k) ∧ Aside0 (Kd.R k61 61 w' w.heap.size (fun _ => True) v5 x5_1) ∧ Aside0 (Below w.heap.size w w'))
 case atStart => exact ⟨(([] : List (S61))), (0), (by first | rfl | (simp; done) | (simp [*]; done)), H', ⟨Nat.le_refl _⟩, ⟨by first | exact Kd.R_nil _ _ _ _ _ | exact Kd.N_nil _ _ _ _ _ | exact Kd.V_nil _ _ _ _ _ | exact Kd.Q_nil _ _ _ _ _ | exact Kd.S_nil _ _ _ _ _⟩, ⟨by repeat (first | (with_reducible first | exact HB.out | apply yA | apply yN | apply yD) | exact HB.out)⟩⟩
 case round =>
  clear H'
  try clear c1
  try clear p2
  obtain ⟨x5_1, x6_1, rfl, HA, HK1, HO_5, HB⟩ := hrel
  cases gk with
  | zero => exact absurd HA.out (by simp [tacticianref02_At.l0])
  | succ k1 =>
   have H := HA.out
   clear HA
   simp only [tacticianref02_At.l0] at H
   by_cases c3 : x6_1 < (l1.length : Int)
   ·rw [if_pos c3] at H
    have c3b0 : decide (x6_1 < (l1.length : Int)) = true := decide_eq_true c3
    clear c3
    by_cases c4 : 0 ≤ x6_1
    ·rw [if_pos c4] at H
     have c4b0 : decide (0 ≤ x6_1) = true := decide_eq_true c4
     clear c4
     by_cases c5 : 0 ≤ (rd l1 x6_1)
     ·rw [if_pos c5] at H
      have c5b0 : decide (0 ≤ (rd l1 x6_1)) = true := decide_eq_true c5
      clear c5
      by_cases c6 : (rd l1 x6_1) < (l0.length : Int)
      ·rw [if_pos c6] at H
       have c6b0 : decide ((rd l1 x6_1) < (l0.length : Int)) = true := decide_eq_true c6
       clear c6
       by_cases c7 : x5_1.length < 4398046511104
       ·rw [if_pos c7] at H
        have LMc7 := Aside0.mk c7
        clear c7
        obtain ⟨y474, hy474⟩ : ∃ y_ : List (S61), y_ = (x5_1 ++ [(⟨(rd_T61 l0 (rd l1 x6_1)).f0, (rd_T61 l0 (rd l1 x6_1)).f1, (rd_T61 l0 (rd l1 x6_1)).f2⟩ : S61)]) := ⟨_, rfl⟩
        replace H : (tacticianref02_At.l0 k1 l0 l1 y474 (wrap64 (x6_1 + 1))) = some r := by first | (rw [hy474]; with_reducible exact H) | (have H2_ := (Option.bind_some _ _).symm.trans H; rw [hy474]; with_reducible exact H2_) | (have H2_ := (Option.bind_some _ _).symm.trans H; with_reducible exact H2_) | with_reducible exact H | (rw [hy474]; exact H) | exact H
        have Ny474 := Aside0.mk hy474
        clear hy474
        have H' := Aside0.mk H
        clear H
        have p472 : 0 ≤ (x6_1 : Int) := of_decide_eq_true (by first | (with_reducible assumption) | assumption)
        have q472 : x6_1 < (l1.length : Int) := of_decide_eq_true (by first | (with_reducible assumption) | assumption)
        obtain ⟨ad472, e472, hx472_0⟩ := Kd.at_int HR1.out x6_1 p472 q472
        cases e472
        replace hx472_0 := (HB.out.cell (World.block_lt_of_cell? w _ hx472_0)).trans hx472_0
        replace p472 := eq_true p472
        replace q472 := eq_true q472
        have p473 : 0 ≤ ((rd l1 x6_1) : Int) := of_decide_eq_true (by first | (with_reducible assumption) | assumption)
        have q473 : (rd l1 x6_1) < (l0.length : Int) := of_decide_eq_true (by first | (with_reducible assumption) | assumption)
        obtain ⟨ad473, e473, hx473_0, hx473_1, hx473_2⟩ := at_T61 HR0.out (rd l1 x6_1) p473 q473
        cases e473
        replace hx473_0 := (HB.out.cell (World.block_lt_of_cell? w _ hx473_0)).trans hx473_0
        replace hx473_1 := (HB.out.cell (World.block_lt_of_cell? w _ hx473_1)).trans hx473_1
        replace hx473_2 := (HB.out.cell (World.block_lt_of_cell? w _ hx473_2)).trans hx473_2
        replace p473 := eq_true p473
        replace q473 := eq_true q473
        go_wp2_with (first | ((with_reducible refine gate_builtin (b := .append) (xs := #[.tmp 13, .tmp 21]) rfl ?_); at_builtin; refine Kd.R_append k61 (w0 := w) w.heap.size rfl (.tmp 13) (.tmp 21) 40 61 (.agg #[(.int .i64 0), (.int .i64 0), (.string ⟨#[]⟩)]) 32 rfl Tryz.underlying40 info61 rfl (by decide) (by omega) u5 x5_1 (⟨(rd_T61 l0 (rd l1 x6_1)).f0, (rd_T61 l0 (rd l1 x6_1)).f1, (rd_T61 l0 (rd l1 x6_1)).f2⟩ : S61) [.int .i64 ((rd_T61 l0 (rd l1 x6_1)).f0), .int .i64 ((rd_T61 l0 (rd l1 x6_1)).f1), .string ((rd_T61 l0 (rd l1 x6_1)).f2)] (fun _ => True) (fun _ => False) rfl rfl ?aP (fun _ hk => hk.elim) ?aF ?aO ?aB ?aS ?aL ?_; (case aP => exact k61_mkM _ _ _ (⟨(rd_T61 l0 (rd l1 x6_1)).f0, (rd_T61 l0 (rd l1 x6_1)).f1, (rd_T61 l0 (rd l1 x6_1)).f2⟩ : S61)); (case aB => exact (by repeat (first | (with_reducible first | exact HB.out | apply yA | apply yN | apply yD) | exact HB.out))); (case aF => exact (fun _ _ => trivial)); (case aO => exact (by (with_reducible repeat (first | apply Kd.R_alloc | apply Kd.R_drewN | apply Kd.R_drew)); exact HO_5.out)); (case aS => exact (below_size (by repeat (first | (with_reducible first | exact HB.out | apply yA | apply yN | apply yD) | exact HB.out)))); (case aL => have := LMc7.out; omega); intro v475 w8 ho hb hg hat; rw [← Ny474.out] at ho; have n0_ := Aside0.mk (hb); have n1_ := Aside0.mk (ho); clear HB; clear HO_5; have HB := n0_; have HO476 := n1_; clear n0_ n1_; clear ho hb hg hat))
        go_roundg k1
        case measure => have := HK1.out; omega
        case rel => exact ⟨(y474), (wrap64 (x6_1 + 1)), (by first | rfl | (simp; done) | (simp [*]; done)), H', ⟨by have := HK1.out; omega⟩, ⟨by (with_reducible repeat (first | apply Kd.R_alloc | apply Kd.R_drewN | apply Kd.R_drew)); exact HO476.out⟩, ⟨by repeat (first | (with_reducible first | exact HB.out | apply yA | apply yN | apply yD) | exact HB.out)⟩⟩
       ·rw [if_neg c7] at H
        exact absurd H (by simp)
      ·rw [if_neg c6] at H
       exact absurd H (by simp)
     ·rw [if_neg c5] at H
      exact absurd H (by simp)
    ·rw [if_neg c4] at H
     exact absurd H (by simp)
   ·rw [if_neg c3] at H
    have c3b0 : decide (x6_1 < (l1.length : Int)) = false := decide_eq_false c3
    clear c3
    obtain rfl := Option.some.inj H
    go_wp2
    go_ret
    exact ⟨_, by first | rfl | (simp [errW_none, errW_some] <;> rfl) | (simp [*, errW_none, errW_some] <;> rfl), by (with_reducible repeat (first | apply Kd.R_alloc | apply Kd.R_drewN | apply Kd.R_drew)); exact HO_5.out, by repeat (first | (with_reducible first | exact HB.out | apply yA | apply yN | apply yD) | exact HB.out)⟩
end Go.Proofs.YtmhobbdedmjmnaaGreatDoor.Q
end
section
/- Each function reached is shown to return what the plain function beside it computes, wherever that is defined (written by a program of ours for this seat). -/
namespace Go.Proofs.YtmhobbdedmjmnaaGreatDoor.Q
open Go.RowKit Go.Proofs.YtmhobbdedmjmnaaGreatDoorW.PrintWords Go.Proofs.YtmhobbdedmjmnaaGreatDoorW.PrintLast Go.Proofs.YtmhobbdedmjmnaaGreatDoorW.PrintMore
attribute [local go_sem] max2_int min2_int max_two min_two max_three min_three max_four min_four   -- for this text's walks alone
set_option linter.unusedVariables false
set_option linter.unusedSimpArgs false
end Go.Proofs.YtmhobbdedmjmnaaGreatDoor.Q
end
section
/- The reference's groups in plain words: the rows with the same values at places, in order; no program in sight. -/
namespace Go.Proofs.YtmhobbdedmjmnaaGreatDoor
open Go.RowKit Go.Sort Go.Proofs.YtmhobbdedmjmnaaGreatDoor.Q Go.Proofs.YtmhobbdedmjmnaaGreatDoorW.PrintWords Go.Proofs.YtmhobbdedmjmnaaGreatDoorW.PrintLast Go.Proofs.YtmhobbdedmjmnaaGreatDoorW.PrintMore
theorem refAt_loop (r : List V) (p : List Int) (hp : ∀ c ∈ p, 0 ≤ c ∧ c < (r.length : Int)) (hn : p.length ≤ 1000) : ∀ (d i k : Nat), i + d = p.length → d < k →
    tacticianref02_At.l0 k r p ((atP p r).take i) (i : Int) = some (atP p r) := by
  have hlen : (atP p r).length = p.length := by unfold atP; rw [List.length_map]
  intro d
  induction d with
  | zero =>
    intro i k hi hk
    obtain ⟨k, rfl⟩ : ∃ m, k = m + 1 := ⟨k - 1, by omega⟩
    rw [tacticianref02_At.l0, if_neg (by omega), List.take_of_length_le (by omega)]
  | succ d ih =>
    intro i k hi hk
    obtain ⟨k, rfl⟩ : ∃ m, k = m + 1 := ⟨k - 1, by omega⟩
    have hlt : i < p.length := by omega
    have hq := hp _ (List.getElem_mem hlt)
    have hx : (atP p r)[i]'(by omega) = atR r p[i] := by unfold atP; rw [List.getElem_map]
    have h1 := ih (i + 1) k (by omega) (by omega)
    rw [List.take_add_one, List.getElem?_eq_getElem (by omega), Option.toList_some, hx] at h1
    rw [tacticianref02_At.l0, if_pos (by omega), if_pos (by omega), rdI_atQ p i hlt, if_pos hq.1, if_pos hq.2, if_pos (by rw [List.length_take]; omega), wrap_small (n := (i : Int) + 1) (by omega) (by omega), show ((i : Int) + 1) = ((i + 1 : Nat) : Int) by omega]
    exact h1
theorem refAt (r : List V) (p : List Int) (hp : placesIn p r = true) (hn : p.length ≤ 100) (k : Nat) (hk : 1001 ≤ k) : tacticianref02_At.f k r p = some (atP p r) := by
  unfold tacticianref02_At.f
  exact refAt_loop r p (placesIn_spec hp) (by omega) p.length 0 k (by omega) (by omega)
theorem atP_ok {p : List Int} {r : List V} (hp : placesIn p r = true) (hn : p.length ≤ 100) (hr : RowOk r) : RowOk (atP p r) := by
  refine ⟨by unfold atP; rw [List.length_map]; exact hn, fun v hv => ?_⟩
  unfold atP at hv
  obtain ⟨c, hc, rfl⟩ := List.mem_map.1 hv
  have hq := placesIn_spec hp c hc
  have e : atR r c ∈ r := by
    unfold atR
    obtain ⟨m, hm⟩ : ∃ m : Nat, c = (m : Int) := ⟨c.toNat, by omega⟩
    subst hm
    have h1 : m < r.length := by omega
    simp [h1]
  exact hr.2 _ e
section
variable (p : List Int) (c : List (List V)) (hn : p.length ≤ 100) (hc : RowsOk 100 c) (hp : ∀ r ∈ c, placesIn p r = true)
include hn hc hp
variable (hs : List (List V)) (hh : RowsOk 100 hs)
include hh
end
theorem groupR_ok {l : List (List V)} {p : List Int} {h : List V} (hl : RowsOk 100 l) : RowsOk 100 (groupR p l h) :=
  (canR_ok hl).sub (fun _ hx => (List.mem_filter.1 hx).1) (Nat.le_trans (List.length_filter_le _ _) (canR_ok hl).1)
theorem rdG_at (l : List (List (List V))) (k : Nat) (h : k < l.length) : rd_L4 l (k : Int) = l[k] := by
  unfold rd_L4
  simp [h]
end Go.Proofs.YtmhobbdedmjmnaaGreatDoor
end
