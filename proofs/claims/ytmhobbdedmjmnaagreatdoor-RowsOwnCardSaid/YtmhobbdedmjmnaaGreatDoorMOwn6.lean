/- Proved: the card of the statement RowsOwn, under the conditions of the given statements alone (written by a program of ours for this seat). -/
import Derived.ProofKit
import Derived.SizedLaws
import Derived.Deep.Slices
import Derived.Deep.Strs
import Derived.ChangeSame
import Derived.Test.YtmhobbdedmjmnaaGreatDoorRows
import Derived.HandedShaped
import Derived.Handed
import Derived.LaidLaws
import Derived.LaidHandle
import Derived.LaidMore
import Derived.Stop.LaidErr
import Derived.Lib.LaidTab
import Derived.Lib.LaidRTab
import Derived.Shelf.Vars
import Derived.Lib.LaidIn
import Derived.PinnedBridge
import Derived.Test.YtmhobbdedmjmnaaGreatDoorCards
import Derived.Test.YtmhobbdedmjmnaaGreatDoorTie
import Derived.SevenTiedAt
import Derived.WalkKit
import Derived.OpenShut
import Derived.ShutString
import Derived.ChangeOld
import Derived.Below
import Derived.Test.YtmhobbdedmjmnaaGreatDoorMOwn5
section
/- Each function reached is shown to return what the plain function beside it computes, wherever that is defined (written by a program of ours for this seat). -/
namespace Go.Proofs.YtmhobbdedmjmnaaGreatDoor.Q
open Go.RowKit Go.Proofs.YtmhobbdedmjmnaaGreatDoorW.PrintWords Go.Proofs.YtmhobbdedmjmnaaGreatDoorW.PrintLast Go.Proofs.YtmhobbdedmjmnaaGreatDoorW.PrintMore
attribute [local go_sem] max2_int min2_int max_two min_two max_three min_three max_four min_four   -- for this text's walks alone
set_option linter.unusedVariables false
set_option linter.unusedSimpArgs false
def rows_At.l0 : Nat → List (S61) → List (S61) → List Int → Int → Int → Option ((List (S61)))
  | 0, _, _, _, _, _ => none
  | k + 1, x0, x5, x11, x12, x13 => if x13 < x12 then (if 0 ≤ x13 then (if x13 < (x11.length : Int) then (if 0 ≤ (rd x11 x13) then (if (rd x11 x13) < (x0.length : Int) then (if x13 < (x5.length : Int) then (rows_At.l0 k x0 (x5.set (x13 : Int).toNat (⟨(rd_T61 x0 (rd x11 x13)).f0, (rd_T61 x0 (rd x11 x13)).f1, (rd_T61 x0 (rd x11 x13)).f2⟩ : S61)) x11 x12 (wrap64 (x13 + 1))) else (none)) else (none)) else (none)) else (none)) else (none)) else (some x5)
def rows_At.f (k : Nat) (l0 : List (S61)) (l1 : List Int) : Option ((List (S61))) := if 0 ≤ (l1.length : Int) then (if ((l1.length : Int) : Int).toNat ≤ 8796093022208 then (rows_At.l0 k l0 (List.replicate ((l1.length : Int) : Int).toNat z61) l1 (l1.length : Int) 0) else (none)) else (none)
set_option maxHeartbeats 8000000 in
set_option maxRecDepth 100000 in
theorem rows_At.grows (k : Nat) (A0 : Option Addr) (c0 : Nat) (l0 : List (S61)) (A1 : Option Addr) (c1 : Nat) (l1 : List Int) (r : List (S61)) (w : World) (hr0 : Kd.C k61 w A0 l0.length l0) (hc0 : l0.length ≤ c0) (hr1 : Kd.C (Kd.int .i64) w A1 l1.length l1) (hc1 : l1.length ≤ c1) (h : rows_At.f k l0 l1 = some r) :
    Calls Tryz.prog 110 #[.slice A0 l0.length c0, .slice A1 l1.length c1] w fun e w' => ∃ v0_ : Value, e = .returned (v0_) ∧ Kd.R k61 61 w' w.heap.size (fun _ => True) v0_ r ∧ BelowD w.heap.size w w' := by
  have hu61 := Tryz.underlying61
  have HR0 := Aside0.mk hr0
  have HC0 := Aside0.mk hc0
  clear hr0 hc0
  have HR1 := Aside0.mk hr1
  have HC1 := Aside0.mk hc1
  clear hr1 hc1
  have HB := Aside0.mk (BelowD.refl w.heap.size w)
  have H : (if 0 ≤ (l1.length : Int) then (if ((l1.length : Int) : Int).toNat ≤ 8796093022208 then (rows_At.l0 k l0 (List.replicate ((l1.length : Int) : Int).toNat z61) l1 (l1.length : Int) 0) else (none)) else (none)) = some r := h
  clear h
  by_cases c3 : 0 ≤ (l1.length : Int)
  · rw [if_pos c3] at H
    have c3b0 := eq_true c3
    have c3b1 : decide (0 ≤ (l1.length : Int)) = true := decide_eq_true c3
    clear c3
    by_cases c4 : ((l1.length : Int) : Int).toNat ≤ 8796093022208
    · rw [if_pos c4] at H
      have c4b0 := eq_true c4
      have c4b1 : decide (((l1.length : Int) : Int).toNat ≤ 8796093022208) = true := decide_eq_true c4
      clear c4
      obtain ⟨y466, hy466⟩ : ∃ y_ : List (S61), y_ = (List.replicate ((l1.length : Int) : Int).toNat z61) := ⟨_, rfl⟩
      replace H : (rows_At.l0 k l0 y466 l1 (l1.length : Int) 0) = some r := by first | (rw [hy466]; with_reducible exact H) | (have H2_ := (Option.bind_some _ _).symm.trans H; rw [hy466]; with_reducible exact H2_) | (have H2_ := (Option.bind_some _ _).symm.trans H; with_reducible exact H2_) | with_reducible exact H | (rw [hy466]; exact H) | exact H
      have Ny466 := Aside0.mk hy466
      clear hy466
      have H' := Aside0.mk H
      clear H
      go_enter Tryz.func110, Tryz.ntmps110
      go_wp2_with (first | ((with_reducible refine gate_dst (N := 10) rfl ?_); refine makeD k61 _ 61 rfl (N := 10) rfl 40 _ _ rfl (l1.length : Int) rfl rfl Tryz.underlying40 (.agg #[(.int .i64 0), (.int .i64 0), (.string ⟨#[]⟩)]) 32 info61 rfl (by decide) (by omega) z61 (ok := fun _ => True) (okp := fun _ => True) (k61_mkM _ _ _ z61 ) (fun _ hk => hk) trivial (of_decide_eq_true (by first | (with_reducible assumption) | assumption)) (Nat.le_trans (Nat.mul_le_mul_right _ (of_decide_eq_true (by first | (with_reducible assumption) | assumption) : (l1.length : Int).toNat ≤ 8796093022208)) (by omega)) (BelowD.refl _ _) (Nat.le_refl _) ?_; intro v467 w5 ho6 hb hg_ hnew_; clear hg_ hnew_; (first | rw [← Ny466.out] at ho6 | (simp only [Int.reduceToNat] at ho6; rw [← Ny466.out] at ho6)); have n0_ := Aside0.mk (Kd.R_lower ho6 (belowD_size (by repeat (first | (with_reducible first | exact HB.out | apply dA | apply dN | apply dD) | exact HB.out)))); have n1_ := Aside0.mk (belowD_step (by repeat (first | (with_reducible first | exact HB.out | apply dA | apply dN | apply dD) | exact HB.out)) hb); clear HB; have HO468 := n0_; have HB := n1_; clear n0_ n1_; clear hb ho6))
      go_loopg [13] k (fun kq v13 w' => ∃ (x5_1 : List (S61)) (x13_1 : Int), v13 = .int .i64 x13_1 ∧ Aside0 (rows_At.l0 kq l0 x5_1 l1 (l1.length : Int) x13_1 = some r) ∧ Aside0 (kq ≤ k) ∧ Aside0 (Kd.R k61 61 w' w.heap.size (fun _ => True) v467 x5_1) ∧ Aside0 (BelowD w.heap.size w w'))
      case atStart => exact ⟨(y466), (0), (by first | rfl | (simp; done) | (simp [*]; done)), H', ⟨Nat.le_refl _⟩, ⟨by (with_reducible repeat (first | apply Kd.R_alloc | apply Kd.R_drewN | apply Kd.R_drew)); exact HO468.out⟩, ⟨by repeat (first | (with_reducible first | exact HB.out | apply dA | apply dN | apply dD) | exact HB.out)⟩⟩
      case round =>
        clear H'
        try clear c1
        try clear p2
        try clear c3
        try clear c3b0
        try clear c3b1
        try clear c4
        try clear c4b0
        try clear c4b1
        obtain ⟨x5_1, x13_1, rfl, HA, HK1, HO_5, HB⟩ := hrel
        cases gk with
        | zero => exact absurd HA.out (by simp [rows_At.l0])
        | succ k1 =>
          have H := HA.out
          clear HA
          simp only [rows_At.l0] at H
          by_cases c7 : x13_1 < (l1.length : Int)
          · rw [if_pos c7] at H
            have c7b0 : decide (x13_1 < (l1.length : Int)) = true := decide_eq_true c7
            clear c7
            by_cases c8 : 0 ≤ x13_1
            · rw [if_pos c8] at H
              have c8b0 : decide (0 ≤ x13_1) = true := decide_eq_true c8
              clear c8
              by_cases c9 : x13_1 < (l1.length : Int)
              · rw [if_pos c9] at H
                have c9b0 : decide (x13_1 < (l1.length : Int)) = true := decide_eq_true c9
                clear c9
                by_cases c10 : 0 ≤ (rd l1 x13_1)
                · rw [if_pos c10] at H
                  have c10b0 : decide (0 ≤ (rd l1 x13_1)) = true := decide_eq_true c10
                  clear c10
                  by_cases c11 : (rd l1 x13_1) < (l0.length : Int)
                  · rw [if_pos c11] at H
                    have c11b0 : decide ((rd l1 x13_1) < (l0.length : Int)) = true := decide_eq_true c11
                    clear c11
                    by_cases c12 : x13_1 < (x5_1.length : Int)
                    · rw [if_pos c12] at H
                      have c12b0 : decide (x13_1 < (x5_1.length : Int)) = true := decide_eq_true c12
                      clear c12
                      obtain ⟨y471, hy471⟩ : ∃ y_ : List (S61), y_ = (x5_1.set (x13_1 : Int).toNat (⟨(rd_T61 l0 (rd l1 x13_1)).f0, (rd_T61 l0 (rd l1 x13_1)).f1, (rd_T61 l0 (rd l1 x13_1)).f2⟩ : S61)) := ⟨_, rfl⟩
                      replace H : (rows_At.l0 k1 l0 y471 l1 (l1.length : Int) (wrap64 (x13_1 + 1))) = some r := by first | (rw [hy471]; with_reducible exact H) | (have H2_ := (Option.bind_some _ _).symm.trans H; rw [hy471]; with_reducible exact H2_) | (have H2_ := (Option.bind_some _ _).symm.trans H; with_reducible exact H2_) | with_reducible exact H | (rw [hy471]; exact H) | exact H
                      have Ny471 := Aside0.mk hy471
                      clear hy471
                      have H' := Aside0.mk H
                      clear H
                      have p469 : 0 ≤ (x13_1 : Int) := of_decide_eq_true (by first | (with_reducible assumption) | assumption)
                      have q469 : x13_1 < (l1.length : Int) := of_decide_eq_true (by first | (with_reducible assumption) | assumption)
                      obtain ⟨ad469, e469, hx469_0⟩ := Kd.at_int HR1.out x13_1 p469 q469
                      cases e469
                      replace hx469_0 := (HB.out.cell (World.block_lt_of_cell? w _ hx469_0)).trans hx469_0
                      replace p469 := eq_true p469
                      replace q469 := eq_true q469
                      have p470 : 0 ≤ ((rd l1 x13_1) : Int) := of_decide_eq_true (by first | (with_reducible assumption) | assumption)
                      have q470 : (rd l1 x13_1) < (l0.length : Int) := of_decide_eq_true (by first | (with_reducible assumption) | assumption)
                      obtain ⟨ad470, e470, hx470_0, hx470_1, hx470_2⟩ := at_T61 HR0.out (rd l1 x13_1) p470 q470
                      cases e470
                      replace hx470_0 := (HB.out.cell (World.block_lt_of_cell? w _ hx470_0)).trans hx470_0
                      replace hx470_1 := (HB.out.cell (World.block_lt_of_cell? w _ hx470_1)).trans hx470_1
                      replace hx470_2 := (HB.out.cell (World.block_lt_of_cell? w _ hx470_2)).trans hx470_2
                      replace p470 := eq_true p470
                      replace q470 := eq_true q470
                      have p13 : 0 ≤ (x13_1 : Int) := of_decide_eq_true (by first | (with_reducible assumption) | assumption)
                      have q13 : (x13_1 : Int) < ((x5_1.length : Int) : Int) := of_decide_eq_true (by first | (with_reducible assumption) | assumption)
                      obtain ⟨go13, co13, eo13, gb13, gl13, cl13, HG13⟩ := Kd.R_form HO_5.out (by omega)
                      (first | cases eo13 | (injection eo13 with ea_ en_ ec_; (first | subst ea_ | (injection ea_ with ea_; subst ea_)); subst ec_; clear en_))
                      have GB13 := Aside0.mk gb13
                      have GG13 := Aside0.mk HG13
                      clear gb13 gl13 HG13
                      obtain ⟨ce13, hcl13, hM13, hcc13, hfr13⟩ := Kd.R_elem HO_5.out z61 (x13_1 : Int) p13 q13
                      obtain rfl := k61_openM hM13
                      have hx13_0 : wr.cell? ⟨go13, (x13_1 : Int).toNat * 3, none⟩ = some (.int .i64 ((rd_T61 x5_1 x13_1).f0)) := hcc13 0 _ rfl
                      have hx13_1 : wr.cell? ⟨go13, (x13_1 : Int).toNat * 3 + 1, none⟩ = some (.int .i64 ((rd_T61 x5_1 x13_1).f1)) := hcc13 1 _ rfl
                      have hx13_2 : wr.cell? ⟨go13, (x13_1 : Int).toNat * 3 + 2, none⟩ = some (.string ((rd_T61 x5_1 x13_1).f2)) := hcc13 2 _ rfl
                      have hf13_0 : wr.frozen? ⟨go13, (x13_1 : Int).toNat * 3, none⟩ = false := hfr13 0
                      have hf13_1 : wr.frozen? ⟨go13, (x13_1 : Int).toNat * 3 + 1, none⟩ = false := hfr13 1
                      have hf13_2 : wr.frozen? ⟨go13, (x13_1 : Int).toNat * 3 + 2, none⟩ = false := hfr13 2
                      clear hcl13 hcc13 hfr13 hM13
                      replace p13 := eq_true p13
                      replace q13 := eq_true q13
                      have HX14 := Aside0.mk (show Kd.R k61 61 wr w.heap.size (fun _ => True) (.slice (some ⟨go13, 0, none⟩) x5_1.length co13) x5_1 from (by (with_reducible repeat (first | apply Kd.R_alloc | apply Kd.R_drewN | apply Kd.R_drew)); exact HO_5.out))
                      obtain ⟨ce14, hcl14, hM14, hcc14, hfr14⟩ := Kd.R_elem HX14.out z61 (x13_1 : Int) (of_decide_eq_true (by first | (with_reducible assumption) | assumption)) (by have h_ : (x13_1 : Int) < ((x5_1.length : Int) : Int) := of_decide_eq_true (by first | (with_reducible assumption) | assumption); first | exact h_ | (have e_ := (Kd.R_reads' HO_5.out).1; omega) | simpa using h_)
                      obtain rfl := k61_openM hM14
                      have HP14 := Kd.R_seg HX14.out (x13_1 : Int) (of_decide_eq_true (by first | (with_reducible assumption) | assumption)) (by have h_ : (x13_1 : Int) < ((x5_1.length : Int) : Int) := of_decide_eq_true (by first | (with_reducible assumption) | assumption); first | exact h_ | (have e_ := (Kd.R_reads' HO_5.out).1; omega) | simpa using h_) (seg := [.int .i64 ((rd_T61 l0 (rd l1 x13_1)).f0), .int .i64 ((rd_T61 l0 (rd l1 x13_1)).f1), .string ((rd_T61 l0 (rd l1 x13_1)).f2)]) (j := 0) hcl14 hcc14 (show 3 ≤ 3 from by decide) (x' := (⟨(rd_T61 l0 (rd l1 x13_1)).f0, (rd_T61 l0 (rd l1 x13_1)).f1, (rd_T61 l0 (rd l1 x13_1)).f2⟩ : S61)) (k61_mkM _ _ _ (⟨(rd_T61 l0 (rd l1 x13_1)).f0, (rd_T61 l0 (rd l1 x13_1)).f1, (rd_T61 l0 (rd l1 x13_1)).f2⟩ : S61) ) (fun _ hk => hk)
                      have hx14_0 := hcc14 0 _ rfl
                      (try simp only [show (k61).sz = 3 from rfl, Nat.mul_one, Nat.add_zero] at hx14_0)
                      have hf14_0 := hfr14 0
                      (try simp only [show (k61).sz = 3 from rfl, Nat.mul_one, Nat.add_zero] at hf14_0)
                      have hx14_1 := hcc14 1 _ rfl
                      (try simp only [show (k61).sz = 3 from rfl, Nat.mul_one, Nat.add_zero] at hx14_1)
                      have hf14_1 := hfr14 1
                      (try simp only [show (k61).sz = 3 from rfl, Nat.mul_one, Nat.add_zero] at hf14_1)
                      have hx14_2 := hcc14 2 _ rfl
                      (try simp only [show (k61).sz = 3 from rfl, Nat.mul_one, Nat.add_zero] at hx14_2)
                      have hf14_2 := hfr14 2
                      (try simp only [show (k61).sz = 3 from rfl, Nat.mul_one, Nat.add_zero] at hf14_2)
                      clear hcl14 hcc14 hfr14 hM14
                      go_wp2_with (first | ((with_reducible refine gate_store (t := 61) (p := 24) rfl ?_); refine store_event (t := 61) (p := 24) (v := ?vo_w15) (w1 := (((wr.setCell ⟨go13, (x13_1 : Int).toNat * 3, none⟩ (.int .i64 ((rd_T61 l0 (rd l1 x13_1)).f0))).setCell ⟨go13, (x13_1 : Int).toNat * 3 + 1, none⟩ (.int .i64 ((rd_T61 l0 (rd l1 x13_1)).f1))).setCell ⟨go13, (x13_1 : Int).toNat * 3 + 2, none⟩ (.string ((rd_T61 l0 (rd l1 x13_1)).f2)))) ?hg ?ho ?hn ?hr ?_; (case ho => rfl); (case hg => rfl); (case hn => rfl); (case hr => first | (go_simp; done) | (go_simp; rfl)); intro w15 hw; have hg : wr.grownBy w15 (some go13) := (by rw [hw]; exact HP14.2); have hp_ : Kd.R k61 61 w15 w.heap.size (fun _ => True) (.slice (some ⟨go13, 0, none⟩) x5_1.length co13) y471 := (by rw [hw, Ny471.out]; exact HP14.1); clear HP14; have n0_ := Aside0.mk (hp_); have n1_ := Aside0.mk ((by rw [hw]; exact setD (setD (setD (HB.out) GB13.out) GB13.out) GB13.out : BelowD w.heap.size w w15)); clear HO_5; clear HB; have HO_5 := n0_; have HB := n1_; clear n0_ n1_; clear hg hw hp_))
                      go_roundg k1
                      case measure => have := HK1.out; omega
                      case rel => exact ⟨(y471), (wrap64 (x13_1 + 1)), (by first | rfl | (simp; done) | (simp [*]; done)), H', ⟨by have := HK1.out; omega⟩, ⟨by (with_reducible repeat (first | apply Kd.R_alloc | apply Kd.R_drewN | apply Kd.R_drew)); exact HO_5.out⟩, ⟨by repeat (first | (with_reducible first | exact HB.out | apply dA | apply dN | apply dD) | exact HB.out)⟩⟩
                    · rw [if_neg c12] at H
                      exact absurd H (by simp)
                  · rw [if_neg c11] at H
                    exact absurd H (by simp)
                · rw [if_neg c10] at H
                  exact absurd H (by simp)
              · rw [if_neg c9] at H
                exact absurd H (by simp)
            · rw [if_neg c8] at H
              exact absurd H (by simp)
          · rw [if_neg c7] at H
            have c7b0 : decide (x13_1 < (l1.length : Int)) = false := decide_eq_false c7
            clear c7
            obtain rfl := Option.some.inj H
            go_wp2
            go_ret
            exact ⟨_, by first | rfl | (simp [errW_none, errW_some] <;> rfl) | (simp [*, errW_none, errW_some] <;> rfl), by (with_reducible repeat (first | apply Kd.R_alloc | apply Kd.R_drewN | apply Kd.R_drew)); exact HO_5.out, by repeat (first | (with_reducible first | exact HB.out | apply dA | apply dN | apply dD) | exact HB.out)⟩
    · rw [if_neg c4] at H
      exact absurd H (by simp)
  · rw [if_neg c3] at H
    exact absurd H (by simp)
/-- places that are places of a row -/
def placesIn (p : List Int) (r : List V) : Bool := p.all fun c => decide (0 ≤ c) && decide (c < (r.length : Int))
theorem placesIn_spec {p : List Int} {r : List V} (h : placesIn p r = true) : ∀ c ∈ p, 0 ≤ c ∧ c < (r.length : Int) := fun c hc => by
  have h1 := (List.all_eq_true.1 h) c hc
  rw [Bool.and_eq_true] at h1
  exact ⟨of_decide_eq_true h1.1, of_decide_eq_true h1.2⟩
theorem placesIn_mk {p : List Int} {r : List V} (h : ∀ c ∈ p, 0 ≤ c ∧ c < (r.length : Int)) : placesIn p r = true := List.all_eq_true.2 fun c hc => by
  rw [decide_eq_true (h c hc).1, decide_eq_true (h c hc).2]; rfl
theorem rdI_atQ (l : List Int) (k : Nat) (h : k < l.length) : rd l (k : Int) = l[k] := by
  unfold rd
  simp [h]
theorem rows_At.l0_at (r : List V) (p : List Int) (hp : ∀ c ∈ p, 0 ≤ c ∧ c < (r.length : Int)) (hn : p.length ≤ 1000000) : ∀ (d i k : Nat), i + d = p.length → d < k →
    rows_At.l0 k r ((atP p r).take i ++ List.replicate d z61) p (p.length : Int) (i : Int) = some (atP p r) := by
  have hlen : (atP p r).length = p.length := by unfold atP; rw [List.length_map]
  intro d
  induction d with
  | zero =>
    intro i k hi hk
    obtain ⟨k, rfl⟩ : ∃ m, k = m + 1 := ⟨k - 1, by omega⟩
    rw [rows_At.l0, if_neg (by omega), List.take_of_length_le (by omega), List.replicate_zero, List.append_nil]
  | succ d ih =>
    intro i k hi hk
    obtain ⟨k, rfl⟩ : ∃ m, k = m + 1 := ⟨k - 1, by omega⟩
    have hlt : i < p.length := by omega
    have hq := hp _ (List.getElem_mem hlt)
    have htl : ((atP p r).take i).length = i := by rw [List.length_take]; omega
    have hx : (atP p r)[i]'(by omega) = atR r p[i] := by unfold atP; rw [List.getElem_map]
    have hset : ((atP p r).take i ++ List.replicate (d + 1) z61).set ((i : Int)).toNat (⟨(rd_T61 r p[i]).f0, (rd_T61 r p[i]).f1, (rd_T61 r p[i]).f2⟩ : V) = (atP p r).take (i + 1) ++ List.replicate d z61 := by
      rw [Int.toNat_natCast, List.replicate_succ, List.set_append_right _ _ (by omega), htl, Nat.sub_self, List.set_cons_zero, List.take_add_one, List.getElem?_eq_getElem (by omega), Option.toList_some, hx, List.append_assoc]
      rfl
    rw [rows_At.l0, if_pos (by omega), if_pos (by omega), if_pos (by omega), rdI_atQ p i hlt, if_pos hq.1, if_pos hq.2, if_pos (by rw [List.length_append, htl, List.length_replicate]; omega), hset, wrap_small (n := (i : Int) + 1) (by omega) (by omega), show ((i : Int) + 1) = ((i + 1 : Nat) : Int) by omega]
    exact ih (i + 1) k (by omega) (by omega)
def rows_At_s.f (l0 : List V) (l1 : List Int) : Option (List V) := if l1.length ≤ 1000000 ∧ placesIn l1 l0 = true then some (atP l1 l0) else none
theorem rows_At.at (l0 : List V) (l1 : List Int) (r : List V) (h : rows_At_s.f l0 l1 = some r) : rows_At.f (l1.length + 1) l0 l1 = some r := by
  unfold rows_At_s.f at h
  by_cases hs : l1.length ≤ 1000000 ∧ placesIn l1 l0 = true
  · rw [if_pos hs] at h
    obtain rfl := Option.some.inj h
    unfold rows_At.f
    rw [if_pos (by omega), Int.toNat_natCast, if_pos (by omega)]
    exact rows_At.l0_at l0 l1 (placesIn_spec hs.2) hs.1 l1.length 0 (l1.length + 1) (by omega) (by omega)
  · rw [if_neg hs] at h; cases h
theorem rows_At_s.grows (A0 : Option Addr) (c0 : Nat) (l0 : List V) (A1 : Option Addr) (c1 : Nat) (l1 : List Int) (r : List V) (w : World) (hr0 : Kd.C k61 w A0 l0.length l0) (hc0 : l0.length ≤ c0) (hr1 : Kd.C (Kd.int .i64) w A1 l1.length l1) (hc1 : l1.length ≤ c1) (h : rows_At_s.f l0 l1 = some r) :
  Calls Tryz.prog 110 #[.slice A0 l0.length c0, .slice A1 l1.length c1] w fun e w' => ∃ v0_ : Value, e = .returned (v0_) ∧ Kd.R k61 61 w' w.heap.size (fun _ => True) v0_ r ∧ BelowD w.heap.size w w' :=
 rows_At.grows (l1.length + 1) A0 c0 l0 A1 c1 l1 r w hr0 hc0 hr1 hc1 (rows_At.at l0 l1 r h)
end Go.Proofs.YtmhobbdedmjmnaaGreatDoor.Q
end
section
/- Each function reached is shown to return what the plain function beside it computes, wherever that is defined (written by a program of ours for this seat). -/
namespace Go.Proofs.YtmhobbdedmjmnaaGreatDoor.Q
open Go.RowKit Go.Proofs.YtmhobbdedmjmnaaGreatDoorW.PrintWords Go.Proofs.YtmhobbdedmjmnaaGreatDoorW.PrintLast Go.Proofs.YtmhobbdedmjmnaaGreatDoorW.PrintMore
attribute [local go_sem] max2_int min2_int max_two min_two max_three min_three max_four min_four   -- for this text's walks alone
set_option linter.unusedVariables false
set_option linter.unusedSimpArgs false
theorem or2_at (a b : Int) : cmp_Or_int.f 3 [a, b] = some (if a ≠ 0 then a else b) := by
  have w1 : wrap64 (0 + 1) = 1 := by unfold wrap64; omega
  have w2 : wrap64 (1 + 1) = 2 := by unfold wrap64; omega
  have r0 : rd [a, b] 0 = a := rfl
  have r1 : rd [a, b] 1 = b := rfl
  have e : ([a, b].length : Int) = 2 := rfl
  simp only [cmp_Or_int.f, cmp_Or_int.l0, e, w1, w2, r0, r1]
  by_cases ha : a = 0 <;> by_cases hb : b = 0 <;> simp [ha, hb]
theorem C_ints2 (W : World) (x y : Int) : Kd.C (Kd.int .i64) (W.alloc (.cells #[.int .i64 x, .int .i64 y] 3)) (some ⟨W.heap.size, 0, none⟩) 2 [x, y] :=
  C_lit rfl (blk_new W _) (Reps.one rfl (Reps.one rfl (Reps.none _ _))) (show 2 ≤ 1000 by decide)
theorem or2.calls (W : World) (x y : Int) (g : Nat) (hg : g = W.heap.size) : Calls Tryz.prog 109 #[.slice (some ⟨g, 0, none⟩) 2 2] (W.alloc (.cells #[.int .i64 x, .int .i64 y] 3)) fun e w' => e = .returned (.int .i64 (if x ≠ 0 then x else y)) ∧ BelowD W.heap.size W w' := by
  subst hg
  refine (cmp_Or_int.calls 3 (some ⟨W.heap.size, 0, none⟩) 2 [x, y] (if x ≠ 0 then x else y) _ (C_ints2 W x y) (Nat.le_refl _) (or2_at x y)).mono ?_
  rintro e w' ⟨he, hd⟩
  obtain ⟨n, rfl⟩ := hd.out
  exact ⟨he, dN (dA (BelowD.refl _ _) _) n⟩
set_option maxHeartbeats 4000000 in
set_option maxRecDepth 100000 in
theorem part1.calls (gb : Nat) (K : Option Addr) (ck : Nat) (p : List Int) (A0 A1 : Option Addr) (c0 c1 : Nat) (a b : List V) (w : World) (hc : w.cell? ⟨gb, 0, none⟩ = some (.slice K p.length ck)) (hck : p.length ≤ ck) (hK : Kd.C (Kd.int .i64) w K p.length p)
    (hA : Kd.C k61 w A0 a.length a) (hca : a.length ≤ c0) (hB : Kd.C k61 w A1 b.length b) (hcb : b.length ≤ c1) (la : a.length ≤ 4611686018427387904) (lb : b.length ≤ 4611686018427387904) (lp : p.length ≤ 1000000) (pa : placesIn p a = true) (pb : placesIn p b = true) :
    Calls Tryz.prog 108 (#[.slice A0 a.length c0, .slice A1 b.length c1] ++ #[.pointer (some ⟨gb, 0, none⟩)]) w fun e w' => e = .returned (.int .i64 (cfP p a b)) ∧ BelowD w.heap.size w w' := by
  have mixed : Tryz.prog.follows .mixedOrders = true := by kernel_rfl
  have lpa : (atP p a).length ≤ 4611686018427387904 := by unfold atP; rw [List.length_map]; omega
  have lpb : (atP p b).length ≤ 4611686018427387904 := by unfold atP; rw [List.length_map]; omega
  have H1 := Aside0.mk (fun W (hb : BelowD w.heap.size w W) => rows_At_s.grows A0 c0 a K ck p (atP p a) W (Kd.C_below hA hb.b) hca (Kd.C_below hK hb.b) hck (by unfold rows_At_s.f; rw [if_pos ⟨lp, pa⟩]))
  have H2 := Aside0.mk (fun W (hb : BelowD w.heap.size w W) => rows_At_s.grows A1 c1 b K ck p (atP p b) W (Kd.C_below hB hb.b) hcb (Kd.C_below hK hb.b) hck (by unfold rows_At_s.f; rw [if_pos ⟨lp, pb⟩]))
  have H3 := Aside0.mk (fun W Ax Ay cx cy hx hy => rows_Order.grows Ax Ay cx cy (atP p a) (atP p b) (cfR (atP p a) (atP p b)) W hx hy (by unfold rows_Order.f; rw [if_pos ⟨lpa, lpb⟩]))
  have H4 := Aside0.mk (fun W (hb : BelowD w.heap.size w W) => rows_Order.grows A0 A1 c0 c1 a b (cfR a b) W (Kd.C_below hA hb.b) (Kd.C_below hB hb.b) (by unfold rows_Order.f; rw [if_pos ⟨la, lb⟩]))
  have HV : Aside0 (cfP p a b = if cfR (atP p a) (atP p b) ≠ 0 then cfR (atP p a) (atP p b) else cfR a b) := ⟨rfl⟩
  rw [HV.out]
  have HB := Aside0.mk (BelowD.refl w.heap.size w)
  clear hck hK hA hca hB hcb la lb lp pa pb lpa lpb HV
  generalize cfR (atP p a) (atP p b) = x at H3 ⊢
  generalize cfR a b = y at H4 ⊢
  have H5 := Aside0.mk (fun (W : World) (g : Nat) (hg : g = W.heap.size) => or2.calls W x y g hg)
  generalize (if x ≠ 0 then x else y) = z at H5 ⊢
  generalize a.length = na at H1 H4 ⊢
  generalize b.length = nb at H2 H4 ⊢
  generalize p.length = np at H1 H2 hc ⊢
  go_enter Tryz.func108, Tryz.ntmps108
  go_wp2_with fail
  go_region_held3 (fun w' => w'.cell? ⟨gb, 0, none⟩ = some (.slice K np ck))
    (first | exact Lib.cell?_alloc_some _ hk4 | exact hk4 | exact hk3 | exact hk2 | exact hk1 | exact hc | go_keep)
    (first
      | (go_at_call 110; refine (H1.out _ (by first | exact HB.out | exact dD HB.out)).mono ?_; rintro e w1 ⟨v1, rfl, hv1, hb1⟩; clear H1; obtain ⟨Ao1, co1, rfl⟩ := Kd.R_slice hv1; have HV1 := Aside0.mk (Kd.R_reads' hv1).2.2; have hk1 := cell_keeps hb1.b hc; have HB1 := Aside0.mk (belowD_step (by first | exact HB.out | exact dD HB.out) hb1); clear hv1 hb1)
      | (go_at_call 110; refine (H2.out _ HB1.out).mono ?_; rintro e w2 ⟨v2, rfl, hv2, hb2⟩; obtain ⟨Ao2, co2, rfl⟩ := Kd.R_slice hv2; have HV2 := Aside0.mk (Kd.R_reads' hv2).2.2; have HV1b := Aside0.mk (Kd.C_below HV1.out hb2.b); have hk2 := cell_keeps hb2.b hk1; have HB2 := Aside0.mk (belowD_step HB1.out hb2); clear hv2 hb2)
      | (go_at_call 63; refine (H3.out _ _ _ _ _ HV1b.out HV2.out).mono ?_; rintro e w3 ⟨rfl, hb3⟩; clear H3; have hk3 := cell_keeps hb3.b hk2; have HB3 := Aside0.mk (belowD_step HB2.out hb3); clear hb3)
      | (go_at_call 63; refine (H4.out _ HB3.out).mono ?_; rintro e w4 ⟨rfl, hb4⟩; have hk4 := cell_keeps hb4.b hk3; have HB4 := Aside0.mk (belowD_step HB3.out hb4); clear hb4)
      | (go_at_call 109; refine (H5.out _ _ rfl).mono ?_; rintro e w5 ⟨rfl, hb5⟩; have hk5 := cell_keeps hb5.b hk4; have HB5 := Aside0.mk (belowD_step HB4.out hb5); clear hb5))
  all_goals
    go_wp2
    go_ret
    exact ⟨rfl, HB5.out⟩
/-! ### rows_Parted: function 72 -/
section
open Go.Sort
theorem sortPart.calls (gb : Nat) (K : Option Addr) (ck : Nat) (p : List Int) (v : Value) (xs : List (List V)) (w0 w : World) (hb : Below w0.heap.size w0 w) (hbox : w.heap[gb]? = some (.cells #[.slice K p.length ck] 34 (0, 0))) (hck : p.length ≤ ck) (hK : Kd.C (Kd.int .i64) w0 K p.length p)
    (h : Kd.S (Kd.slice 61 k61) 40 w w0.heap.size (fun _ => True) v xs) (hl : okR xs = true) (lp : p.length ≤ 1000000) (hp : ∀ x ∈ xs, placesIn p x = true) :
    Calls Tryz.prog 60 #[v, .func (.func 108) #[] #[.pointer (some ⟨gb, 0, none⟩)]] w fun e' w' => e' = .returned (.tuple #[]) ∧ Kd.S (Kd.slice 61 k61) 40 w' w0.heap.size (fun _ => True) v (sortBy (cfP p) xs) ∧ w.grownBy w' v.ownBlock ∧ (∀ (B : Nat) (w1 : World), B ≤ w0.heap.size → Below B w1 w → B ≤ w.heap.size → Below B w1 w') := by
  have hl' := okR_spec hl
  have eg : ∀ args w, (callFunc 108 args).run Tryz.prog w = .ok (.enter 108 args) w := enters_of Tryz.func108 (by kernel_rfl) rfl
  have hki : Kd.Heap (Kd.int .i64) := Kd.heap_int _
  have hc := sortS Tryz.sortR (Kd.slice 61 k61) rfl 40 (cfP p) (cfP_tc _) 108 #[.pointer (some ⟨gb, 0, none⟩)] eg v xs w w0.heap.size _ h (by have := hl'.1; omega) (fun x y cx cy W hx hy hMx hMy hW => by
    obtain ⟨A0, c0, rfl, hc0, hC0⟩ := M_row_reads hMx
    obtain ⟨A1, c1, rfl, hc1, hC1⟩ := M_row_reads hMy
    have hcell : W.heap[gb]? = _ := (hW gb (blk_lt hbox) (Kd.S_ne h hbox (by decide))).trans hbox
    have hKW : Kd.C (Kd.int .i64) W K p.length p := hki.C (fun k hk => (hW k (Nat.lt_of_lt_of_le hk hb.size) (fun e => by have := Kd.S_base h k e.symm; omega)).trans (hb.block k hk)) hK
    exact part1.calls gb K ck p A0 A1 c0 c1 x y W (blk_cell hcell 0) hck hKW hC0 hc0 hC1 hc1 (by have := hl'.2 x hx; omega) (by have := hl'.2 y hy; omega) lp (hp x hx) (hp y hy))
  change Calls Tryz.prog 60 _ _ _ at hc
  exact hc
set_option maxRecDepth 100000 in
set_option maxHeartbeats 4000000 in
theorem parted.calls (A0 : Option Addr) (c0 : Nat) (l : List (List V)) (K : Option Addr) (ck : Nat) (p : List Int) (w : World) (hr0 : Kd.C (Kd.slice 61 k61) w A0 l.length l) (hc0 : l.length ≤ c0) (hr1 : Kd.C (Kd.int .i64) w K p.length p) (hc1 : p.length ≤ ck) (hok : okR l = true) (lp : p.length ≤ 1000000) (hp : ∀ x ∈ l, placesIn p x = true) :
    Calls Tryz.prog 72 #[.slice A0 l.length c0, .slice K p.length ck] w fun e w' => ∃ (gs gb : Nat) (v : Value), e = .returned (.func (.func 111) #[] #[.pointer (some ⟨gs, 0, none⟩), .pointer (some ⟨gb, 0, none⟩)]) ∧
      w'.heap[gs]? = some (.cells #[v] 22 (0, 0)) ∧ w'.heap[gb]? = some (.cells #[.slice K p.length ck] 34 (0, 0)) ∧ Kd.S (Kd.slice 61 k61) 40 w' w.heap.size (fun _ => True) v (sortBy (cfP p) l) ∧ Below w.heap.size w w' := by
  have HCP := Aside0.mk (fun W (hb : Below w.heap.size w W) => rows_Copy_s.calls A0 c0 l l W (Kd.C_below hr0 hb) hc0 (by unfold rows_Copy_s.f; rw [if_pos hok]))
  have HB0 := Aside0.mk (below_alloc (Below.refl w.heap.size w) (.cells #[.slice K p.length ck] 34))
  have HX0 := Aside0.mk (blk_new w (.cells #[.slice K p.length ck] 34))
  have HS := Aside0.mk (fun (v : Value) (W : World) (hb : Below w.heap.size w W) (hx : W.heap[w.heap.size]? = some (.cells #[.slice K p.length ck] 34 (0, 0))) hS => sortPart.calls w.heap.size K ck p v l w W hb hx hc1 hr1 hS hok lp hp)
  have HL : Aside0 (l.length ≤ 1000000) := ⟨(okR_spec hok).1⟩
  clear hr0 hc0 hr1 hc1 hok lp hp
  generalize sortBy (cfP p) l = res at HS ⊢
  obtain ⟨n, hn⟩ : ∃ n, n = l.length := ⟨_, rfl⟩
  rw [← hn] at HCP ⊢
  have HN := Aside0.mk hn
  clear hn
  generalize p.length = np at HB0 HX0 HS ⊢
  go_enter Tryz.func72, Tryz.ntmps72
  go_wp2_with (first
    | (go_at_call 59; refine (HCP.out _ HB0.out).mono ?_; rintro e w2 ⟨v2, rfl, hv2, hb2⟩; obtain ⟨A2, c2, rfl⟩ := Kd.S_slice hv2; have HV2 := Aside0.mk (Kd.S_lower hv2 HB0.out.size); have HX2 := Aside0.mk (blk_below HX0.out hb2); have HB2 := Aside0.mk (below_step HB0.out hb2); clear hv2 hb2 HCP)
    | (go_at_call 60; have hbx : (w2.alloc (.cells #[.slice A2 l.length c2] 22)).heap[w2.heap.size]? = some (.cells #[.slice A2 l.length c2] 22 (0, 0)) := blk_new w2 _; have hbx6 := blk_alloc HX2.out (.cells #[.slice A2 l.length c2] 22); have hsA := Kd.S_alloc HV2.out (.cells #[.slice A2 l.length c2] 22); have hbA := below_alloc HB2.out (.cells #[.slice A2 l.length c2] 22); refine (HS.out _ _ hbA hbx6 hsA).mono ?_; rintro e w5 ⟨rfl, hv5, hg5, hb5⟩; have hn5 := Kd.S_ne hsA hbx (show 40 ≠ 22 by decide); have hn6 := Kd.S_ne hsA hbx6 (show 40 ≠ 34 by decide); have HX5 := Aside0.mk (blk_grown hbx hg5 hn5); have HX6 := Aside0.mk (blk_grown hbx6 hg5 hn6); have HV5 := Aside0.mk hv5; have HB5 := Aside0.mk (hb5 w.heap.size w (Nat.le_refl _) hbA hbA.size); clear hbx hbx6 hsA hbA hn5 hn6; clear hv5 hg5 hb5))
  go_ret
  exact ⟨_, _, _, rfl, HX5.out, HX6.out, HV5.out, HB5.out⟩
end
/-! ### rows_Parted_2: function 111 -/
section
open Go.Shelf
set_option maxRecDepth 100000 in
set_option maxHeartbeats 8000000 in
theorem parted2.calls (l gs gb c : Nat) (ad : Addr) (A : Option Addr) (K : Option Addr) (ck : Nat) (p : List Int) (s : List (List V)) (wn W : World) (hA : 0 < s.length → A = some ad)
    (hgs : wn.cell? ⟨gs, 0, none⟩ = some (.slice A s.length c)) (hgb : wn.cell? ⟨gb, 0, none⟩ = some (.slice K p.length ck)) (hsc : s.length ≤ c) (hck : p.length ≤ ck) (hS : Kd.C (Kd.slice 61 k61) wn A s.length s) (hK : Kd.C (Kd.int .i64) wn K p.length p) (hok : okR s = true) (lp : p.length ≤ 1000000) (hp : ∀ x ∈ s, placesIn p x = true)
    (hb0 : Below wn.heap.size wn W) (J Jx : List (Nat × Nat) → World → Prop) (hJ : AbidesFrom W.heap.size J)
    (hY : ∀ pre x W1, J pre W1 → pre.length < s.length → YieldAt Fence.wide 2 Tryz.prog l #[encP ad x] W1 fun e W' => (e = .returned (.bool true) ∧ J (pre ++ [x]) W' ∧ Below wn.heap.size W1 W') ∨ (e = .returned (.bool false) ∧ Jx (pre ++ [x]) W'))
    (h0 : J [] W) :
    Calls Tryz.prog 111 (#[.func (.yield l) #[] #[]] ++ #[.pointer (some ⟨gs, 0, none⟩), .pointer (some ⟨gb, 0, none⟩)]) W fun e W' => (∃ v, e = .returned v) ∧
      ((∃ xs, (xs.map (segL s) = runs (atP p) s ∧ ∀ x ∈ xs, x.1 ≤ x.2 ∧ x.2 ≤ s.length) ∧ J xs W') ∨ (∃ pre, Jx pre W')) := by
  have mixed : Tryz.prog.follows .mixedOrders = true := by kernel_rfl
  have hl := okR_spec hok
  have HAT := Aside0.mk (fun (x : List V) (hx : placesIn p x = true) (A1 : Option Addr) (c1 : Nat) (W1 : World) (hb : Below wn.heap.size wn W1) (hc1 : x.length ≤ c1) (hC : Kd.C k61 W1 A1 x.length x) => rows_At_s.grows A1 c1 x K ck p (atP p x) W1 hC hc1 (Kd.C_below hK hb) hck (by unfold rows_At_s.f; rw [if_pos ⟨lp, hx⟩]))
  have HLP : Aside0 (∀ x : List V, (atP p x).length ≤ 4611686018427387904) := ⟨fun x => by unfold atP; rw [List.length_map]; omega⟩
  have HS := Aside0.mk hS
  have HP := Aside0.mk hp
  have HA := Aside0.mk hA
  have HJA := Aside0.mk hJ
  have HY := Aside0.mk hY
  have HB0 := Aside0.mk hb0
  have H0 := Aside0.mk h0
  obtain ⟨n, hn⟩ : ∃ n, n = s.length := ⟨_, rfl⟩
  have hle : n ≤ 1000000 := by omega
  rw [← hn] at hgs hsc
  have HN := Aside0.mk hn
  generalize hnp : p.length = np at hgb HAT
  clear hA hck hS hK hok lp hp hb0 hJ hY h0 hl hn
  go_enter Tryz.func111, Tryz.ntmps111
  go_wp2
  go_loopg [4, 5] n (fun gg s4 _ wr => ∃ (i : Nat) (pre : List (Nat × Nat)), i ≤ n ∧ n - i ≤ gg ∧ s4 = .int .i64 i ∧ Aside0 (Below wn.heap.size wn wr) ∧ Aside0 (J pre wr) ∧ Aside0 (pre.length ≤ i ∧ (∀ x ∈ pre, x.1 ≤ x.2 ∧ x.2 ≤ s.length) ∧ pre.map (segL s) ++ runs (atP p) (s.drop i) = runs (atP p) s))
  case atStart => exact ⟨0, [], Nat.zero_le _, by omega, rfl, HB0, H0, ⟨Nat.le_refl _, (fun x hx => by cases hx), rfl⟩⟩
  case round =>
    clear HB0 H0
    obtain ⟨i, pre, hi, hg, rfl, HB, HJ, HPR⟩ := hrel
    have hc1 := kept_cell HB.out rfl hgs
    have hc2 := kept_cell HB.out rfl hgb
    by_cases hlt : i < n
    · have hltz : (i : Int) < (n : Int) := by omega
      go_wp2
      go_loopg [5] n (fun gg2 s5 wr => ∃ j : Nat, i < j ∧ j ≤ n ∧ n - j ≤ gg2 ∧ s5 = .int .i64 j ∧ Aside0 (Below wn.heap.size wn wr) ∧ Aside0 (J pre wr) ∧ Aside0 (∀ (m : Nat) (hm : m < s.length) (hi : i < s.length), i ≤ m → m < j → atP p s[m] = atP p s[i]))
      case atStart => exact ⟨i + 1, by omega, by omega, by omega, by go_num, HB, HJ, ⟨fun m hm hi h1 h2 => by
        have : m = i := by omega
        subst this
        rfl⟩⟩
      case round =>
        clear HB HJ hc1 hc2
        obtain ⟨j, hij, hj, hg2, rfl, HBq, HJq, HKq⟩ := hrel
        have d1 := kept_cell HBq.out rfl hgs
        have d2 := kept_cell HBq.out rfl hgb
        by_cases hjn : j < n
        · have hjz : (j : Int) < (n : Int) := by omega
          have i0 : (0 : Int) ≤ (i : Int) := by omega
          have j0 : (0 : Int) ≤ (j : Int) := by omega
          have his : i < s.length := by have := HN.out; omega
          have hjs : j < s.length := by have := HN.out; omega
          obtain ⟨ad1, Ax, cx, hAd1, x0, hlx, hCx⟩ := row_cell HS.out i his
          obtain ⟨ad2, Ay, cy, hAd2, y0, hly, hCy⟩ := row_cell HS.out j hjs
          have hAd := HA.out (by omega)
          obtain rfl : ad1 = ad := Option.some.inj (hAd1.symm.trans hAd)
          obtain rfl : ad2 = ad1 := Option.some.inj (hAd2.symm.trans hAd)
          subst hAd
          clear hAd1 hAd2
          have hjc : (j : Int) ≤ (c : Int) := by omega
          have hij2 : (i : Int) ≤ (j : Int) := by omega
          replace x0 := kept_cell HBq.out rfl x0
          replace y0 := kept_cell HBq.out rfl y0
          have HAX := Aside0.mk (fun W1 (hb : Below wn.heap.size wn W1) => HAT.out s[i] (HP.out _ (List.getElem_mem his)) Ax cx W1 hb hlx (Kd.C_below hCx hb))
          have HAY := Aside0.mk (fun W1 (hb : Below wn.heap.size wn W1) => HAT.out s[j] (HP.out _ (List.getElem_mem hjs)) Ay cy W1 hb hly (Kd.C_below hCy hb))
          have HOR := Aside0.mk (fun W1 A1 A2 c1 c2 (h1 : Kd.C k61 W1 A1 (atP p s[i]).length (atP p s[i])) (h2 : Kd.C k61 W1 A2 (atP p s[j]).length (atP p s[j])) => rows_Order.grows A1 A2 c1 c2 (atP p s[i]) (atP p s[j]) (cfR (atP p s[i]) (atP p s[j])) W1 h1 h2 (by unfold rows_Order.f; rw [if_pos ⟨HLP.out _, HLP.out _⟩]))
          have HEQ : Aside0 (cfR (atP p s[i]) (atP p s[j]) = 0 ↔ atP p s[i] = atP p s[j]) := ⟨⟨cfR_tc.same _ _, fun h => by rw [h]; exact cfR_tc.refl _⟩⟩
          generalize cfR (atP p s[i]) (atP p s[j]) = r at HOR HEQ
          generalize s[i].length = xlen at x0 HAX
          generalize s[j].length = ylen at y0 HAY
          clear hlx hly hCx hCy
          by_cases hr : r = 0
          · have hrz : (r == 0) = true := by rw [hr]; rfl
            go_wp2_with fail
            go_region_held3 (fun w' => w'.cell? ⟨gs, 0, none⟩ = some (.slice (some ad2) n c) ∧ w'.cell? ⟨gb, 0, none⟩ = some (.slice K np ck) ∧ w'.cell? (ad2.add i) = some (.slice Ax xlen cx) ∧ w'.cell? (ad2.add j) = some (.slice Ay ylen cy))
              (first | exact k3 | exact k2 | exact k1 | exact ⟨d1, d2, x0, y0⟩ | go_keep)
              (first
            | (go_at_call 110; refine (HAX.out _ (by first | exact HBq.out | exact yD HBq.out)).mono ?_; rintro e w1 ⟨v1, rfl, hv1, hb1⟩; clear HAX; obtain ⟨Ao1, co1, rfl⟩ := Kd.R_slice hv1; have HV1 := Aside0.mk (Kd.R_reads' hv1).2.2; have k1 := And.intro (cell_keeps hb1.b d1) (And.intro (cell_keeps hb1.b d2) (And.intro (cell_keeps hb1.b x0) (cell_keeps hb1.b y0))); have HB1 := Aside0.mk (below_step (by first | exact HBq.out | exact yD HBq.out) hb1.b); have HW1 := Aside0.mk (below_step (by first | exact Below.refl wr.heap.size wr | exact yD (Below.refl wr.heap.size wr)) hb1.b); clear hv1 hb1)
            | (go_at_call 110; refine (HAY.out _ HB1.out).mono ?_; rintro e w2 ⟨v2, rfl, hv2, hb2⟩; obtain ⟨Ao2, co2, rfl⟩ := Kd.R_slice hv2; have HV2 := Aside0.mk (Kd.R_reads' hv2).2.2; have HV1b := Aside0.mk (Kd.C_below HV1.out hb2.b); have k2 := And.intro (cell_keeps hb2.b k1.1) (And.intro (cell_keeps hb2.b k1.2.1) (And.intro (cell_keeps hb2.b k1.2.2.1) (cell_keeps hb2.b k1.2.2.2))); have HB2 := Aside0.mk (below_step HB1.out hb2.b); have HW2 := Aside0.mk (below_step HW1.out hb2.b); clear hv2 hb2)
            | (go_at_call 63; refine (HOR.out _ _ _ _ _ HV1b.out HV2.out).mono ?_; rintro e w3 ⟨rfl, hb3⟩; have k3 := And.intro (cell_keeps hb3.b k2.1) (And.intro (cell_keeps hb3.b k2.2.1) (And.intro (cell_keeps hb3.b k2.2.2.1) (cell_keeps hb3.b k2.2.2.2))); have HB3 := Aside0.mk (below_step HB2.out hb3.b); have HW3 := Aside0.mk (below_step HW2.out hb3.b); clear hb3))
            all_goals
              go_wp2
              go_roundg (n - (j + 1))
              case measure => omega
              case rel => exact ⟨j + 1, by omega, by omega, by omega, by go_num, HB3, ⟨abide_below HJA.out HJq.out HW3.out⟩, ⟨fun m hm hi h1 h2 => by
                by_cases e : m = j
                · subst e
                  exact (HEQ.out.1 hr).symm
                · exact HKq.out m hm hi h1 (by omega)⟩⟩
          · have hrz : (r == 0) = false := by simpa using hr
            go_wp2_with fail
            go_region_held3 (fun w' => w'.cell? ⟨gs, 0, none⟩ = some (.slice (some ad2) n c) ∧ w'.cell? ⟨gb, 0, none⟩ = some (.slice K np ck) ∧ w'.cell? (ad2.add i) = some (.slice Ax xlen cx) ∧ w'.cell? (ad2.add j) = some (.slice Ay ylen cy))
              (first | exact k3 | exact k2 | exact k1 | exact ⟨d1, d2, x0, y0⟩ | go_keep)
              (first
            | (go_at_call 110; refine (HAX.out _ (by first | exact HBq.out | exact yD HBq.out)).mono ?_; rintro e w1 ⟨v1, rfl, hv1, hb1⟩; clear HAX; obtain ⟨Ao1, co1, rfl⟩ := Kd.R_slice hv1; have HV1 := Aside0.mk (Kd.R_reads' hv1).2.2; have k1 := And.intro (cell_keeps hb1.b d1) (And.intro (cell_keeps hb1.b d2) (And.intro (cell_keeps hb1.b x0) (cell_keeps hb1.b y0))); have HB1 := Aside0.mk (below_step (by first | exact HBq.out | exact yD HBq.out) hb1.b); have HW1 := Aside0.mk (below_step (by first | exact Below.refl wr.heap.size wr | exact yD (Below.refl wr.heap.size wr)) hb1.b); clear hv1 hb1)
            | (go_at_call 110; refine (HAY.out _ HB1.out).mono ?_; rintro e w2 ⟨v2, rfl, hv2, hb2⟩; obtain ⟨Ao2, co2, rfl⟩ := Kd.R_slice hv2; have HV2 := Aside0.mk (Kd.R_reads' hv2).2.2; have HV1b := Aside0.mk (Kd.C_below HV1.out hb2.b); have k2 := And.intro (cell_keeps hb2.b k1.1) (And.intro (cell_keeps hb2.b k1.2.1) (And.intro (cell_keeps hb2.b k1.2.2.1) (cell_keeps hb2.b k1.2.2.2))); have HB2 := Aside0.mk (below_step HB1.out hb2.b); have HW2 := Aside0.mk (below_step HW1.out hb2.b); clear hv2 hb2)
            | (go_at_call 63; refine (HOR.out _ _ _ _ _ HV1b.out HV2.out).mono ?_; rintro e w3 ⟨rfl, hb3⟩; have k3 := And.intro (cell_keeps hb3.b k2.1) (And.intro (cell_keeps hb3.b k2.2.1) (And.intro (cell_keeps hb3.b k2.2.2.1) (cell_keeps hb3.b k2.2.2.2))); have HB3 := Aside0.mk (below_step HB2.out hb3.b); have HW3 := Aside0.mk (below_step HW2.out hb3.b); clear hb3))
            all_goals
              have HJ3 := Aside0.mk (abide_below HJA.out HJq.out HW3.out)
              have e1 := k3.1
              go_upto_region 5 with (fail)
              obtain ⟨fn, tmps, assign, body, hy, hR⟩ := HY.out pre (i, j) _ HJ3.out (by have := HPR.out.1; have := HN.out; omega)
              dsimp only [encP] at hy
              refine (wpIn_wide (n := 3)).1 ?_
              gi_wp2
              refine hR.mono ?_
              rintro e W4 (⟨rfl, hJ4, hk4⟩ | ⟨rfl, hJx4⟩)
              · gi_wp2
                go_wp2
                go_roundg (n - j)
                case measure => omega
                case rel =>
                  refine ⟨j, pre ++ [(i, j)], hj, by omega, rfl, ⟨HB3.out.trans hk4⟩, ⟨hJ4⟩, ⟨?_, ?_, ?_⟩⟩
                  · rw [List.length_append, List.length_singleton]
                    have := HPR.out.1
                    omega
                  · intro x hx
                    rcases List.mem_append.1 hx with h | h
                    · exact HPR.out.2.1 x h
                    · rw [List.mem_singleton.1 h]
                      exact ⟨by omega, by have := HN.out; omega⟩
                  · rw [List.map_append, List.append_assoc, ← HPR.out.2.2, runs_seg (atP p) s i j his (by have := HN.out; omega) hij (fun m hm h1 h2 => HKq.out m hm his h1 h2) (fun h e => hr (HEQ.out.2 e.symm))]
                    rfl
              · gi_wp2
                go_wp2
                refine bodyPost_ret (results_none rfl _ _ _) rfl ?_
                exact ⟨⟨_, rfl⟩, .inr ⟨pre ++ [(i, j)], hJx4⟩⟩
        · have hjz3 : ¬ (j : Int) < (n : Int) := by omega
          have hjz2 : decide ((j : Int) < (n : Int)) = false := decide_eq_false hjz3
          have his : i < s.length := by have := HN.out; omega
          have hAd := HA.out (by omega)
          subst hAd
          have hjc : (j : Int) ≤ (c : Int) := by omega
          have hij2 : (i : Int) ≤ (j : Int) := by omega
          go_wp2_with fail
          go_quiet (fail)
          have HBq2 := Aside0.mk (yN HBq.out nq)
          have HJ3 := Aside0.mk (abide_below HJA.out HJq.out (yN (Below.refl wr.heap.size wr) nq))
          have e1 : (wr.drewN nq).cell? ⟨gs, 0, none⟩ = some (.slice (some ad) n c) := d1
          go_upto_region 5 with (fail)
          obtain ⟨fn, tmps, assign, body, hy, hR⟩ := HY.out pre (i, j) _ HJ3.out (by have := HPR.out.1; have := HN.out; omega)
          dsimp only [encP] at hy
          refine (wpIn_wide (n := 3)).1 ?_
          gi_wp2
          refine hR.mono ?_
          rintro e W4 (⟨rfl, hJ4, hk4⟩ | ⟨rfl, hJx4⟩)
          · gi_wp2
            go_wp2
            go_roundg (n - j)
            case measure => omega
            case rel =>
              refine ⟨j, pre ++ [(i, j)], hj, by omega, rfl, ⟨HBq2.out.trans hk4⟩, ⟨hJ4⟩, ⟨?_, ?_, ?_⟩⟩
              · rw [List.length_append, List.length_singleton]
                have := HPR.out.1
                omega
              · intro x hx
                rcases List.mem_append.1 hx with h | h
                · exact HPR.out.2.1 x h
                · rw [List.mem_singleton.1 h]
                  exact ⟨by omega, by have := HN.out; omega⟩
              · rw [List.map_append, List.append_assoc, ← HPR.out.2.2, runs_seg (atP p) s i j his (by have := HN.out; omega) hij (fun m hm h1 h2 => HKq.out m hm his h1 h2) (fun h => absurd h (by have := HN.out; omega))]
                rfl
          · gi_wp2
            go_wp2
            refine bodyPost_ret (results_none rfl _ _ _) rfl ?_
            exact ⟨⟨_, rfl⟩, .inr ⟨pre ++ [(i, j)], hJx4⟩⟩
    · have hltz : decide (i < n) = false := by simpa using hlt
      have HE : Aside0 (pre.map (segL s) = runs (atP p) s) := ⟨by
        have h := HPR.out.2.2
        rw [List.drop_of_length_le (show s.length ≤ i by have := HN.out; omega)] at h
        rw [← h]
        exact (List.append_nil _).symm⟩
      go_wp2
      go_end0
      exact ⟨⟨_, rfl⟩, .inl ⟨pre, ⟨HE.out, HPR.out.2.1⟩, HJ.out⟩⟩
end
/-! ### api_Value_107: function 107 -/
section
open Go.Shelf
attribute [local go_sem] Oper.semAt_some
set_option maxRecDepth 100000 in
set_option maxHeartbeats 4000000 in
theorem appendSeq.calls (gs gb c : Nat) (ad : Addr) (A : Option Addr) (K : Option Addr) (ck : Nat) (p : List Int) (s : List (List V)) (w : World) (hA : 0 < s.length → A = some ad)
    (hgs : w.cell? ⟨gs, 0, none⟩ = some (.slice A s.length c)) (hgb : w.cell? ⟨gb, 0, none⟩ = some (.slice K p.length ck)) (hsc : s.length ≤ c) (hck : p.length ≤ ck) (hS : Kd.C (Kd.slice 61 k61) w A s.length s) (hK : Kd.C (Kd.int .i64) w K p.length p) (hok : okR s = true) (lp : p.length ≤ 1000000) (hp : ∀ x ∈ s, placesIn p x = true) :
    Calls Tryz.prog 107 #[.slice none 0 0, .func (.func 111) #[] #[.pointer (some ⟨gs, 0, none⟩), .pointer (some ⟨gb, 0, none⟩)]] w fun e W' => ∃ (v : Value) (xs : List (Nat × Nat)), e = .returned v ∧
      W'.ownsRow w.heap.size 22 1 v xs.length (xs.map (encP ad)) ∧ xs.map (segL s) = runs (atP p) s ∧ (∀ x ∈ xs, x.1 ≤ x.2 ∧ x.2 ≤ s.length) ∧ Below w.heap.size w W' := by
  obtain ⟨i0, hi, hz0, hz1, hz2⟩ := info_parts info22
  have bO := Boxed.new w 55 (.slice none 0 0)
  have hB0 : Below w.heap.size w (w.alloc (.cells #[.slice none 0 0] 55)) := (Below.refl _ w).alloc (Nat.le_refl _) _
  have hsl := (okR_spec hok).1
  refine (callsIn_wide (n := 4)).1 ?_
  refine callsIn_of_wp_marks Tryz.func107 rfl trivial ?_ rfl
  simp only [Tryz.ntmps107, List.size_toArray, List.length_cons, List.length_nil, Nat.reduceAdd, Nat.reduceSub, Array.replicate_succ, Array.replicate_zero, List.push_toArray, List.append_toArray, List.nil_append, List.cons_append]
  gi_wp2
  refine wpIn_rangeFunc_ownG rfl (by omega) (gf := 111) (lb := #[.pointer (some ⟨gs, 0, none⟩), .pointer (some ⟨gb, 0, none⟩)]) rfl trivial (enters_of Tryz.func111 (by kernel_rfl) rfl)
    (encs := fun x : Nat × Nat => #[encP ad x]) (Kp := Below w.heap.size) (S := fun xs => xs.map (segL s) = runs (atP p) s ∧ ∀ x ∈ xs, x.1 ≤ x.2 ∧ x.2 ≤ s.length) (Sp := fun _ => True) (N := s.length) (w0 := w)
    (fun l J Jx W hW hJ _ hY h0 => callsIn_wide.2 ((parted2.calls l gs gb c ad A K ck p s w W hA hgs hgb hsc hck hS hK hok lp hp hW J Jx hJ hY h0).mono (by
      rintro e W' ⟨hv, h⟩
      exact ⟨hv, h.imp (fun h => h) (fun ⟨pre, h⟩ => ⟨pre, trivial, h⟩)⟩)))
    belowK_t (belowK_b (by simp)) hB0 (fun _ => rfl)
    (fun pre W => (∃ v, Boxed W w.heap.size 55 v ∧ W.ownsRow w.heap.size 22 1 v pre.length (pre.map (encP ad)) ∧ True) ∧ Below w.heap.size w W)
    (fun _ _ _ => False)
    (OwnFrom.and (Own.from (holdsRow_own w.heap.size w.heap.size 55 22 1 (fun pre : List (Nat × Nat) => pre.length) (fun pre => pre.map (encP ad)) (fun _ _ => True)) _) (ownFrom_below (Nat.le_refl _) (by simp)))
    (fun _ _ _ _ _ hs _ _ => hs)
    ⟨⟨_, bO, World.ownsRow_nil _ _ _ _, trivial⟩, hB0⟩
    (fun x => { tmps := #[.slice none 0 0, .func (.func 111) #[] #[.pointer (some ⟨gs, 0, none⟩), .pointer (some ⟨gb, 0, none⟩)], .pointer (some ⟨w.heap.size, 0, none⟩), undef, .slice none 0 0, encP ad x, .func (.func 111) #[] #[.pointer (some ⟨gs, 0, none⟩), .pointer (some ⟨gb, 0, none⟩)], encP ad x, undef, undef, undef, undef, undef], defers := [] }) ?assign ?body ?done ?stop
  case assign =>
    intro l x W K hK
    gi_wp2
    exact hK
  case body =>
    rintro l pre x W ⟨⟨v, hv, hrow, _⟩, hB⟩ hlt
    have hc := hv.cell
    simp only [encP]
    gi_wp2_with (gi_at_builtin; refine wpListIn_append_own _ rfl _ _ 55 rfl w.heap.size 22 i0 (.slice none 0 0) 1 24 Tryz.underlying55 hi hz0 hz1 hz2 rfl (by decide) _ _ _ rfl (hrow.alloc _) ⟨W.heap.size, 0, none⟩ 1 1 [.slice (some (ad.add x.1)) (x.2 - x.1) (x.2 - x.1)] rfl rfl (cell_one_new _ _ _) (by simp [Value.oneCell']) (by unfold maxLen; omega) (by omega) (by have := hB.size; simp; omega) ?_; intro v' w1 hown' hgrow _; obtain ⟨g', cap', rfl⟩ := ownsRow_succ hown'; obtain ⟨hv1, hv2, hr2, hk2, hb2⟩ := hv.appended (by decide) hrow hB.size (Nat.le_refl _) hown' hgrow; have hc1 := hv1.cell; have hf1 := hv1.frozen)
    exact ⟨hk2.from _, hb2, ⟨_, hv2, by rw [List.length_append, List.map_append]; exact hr2, trivial⟩, hB.trans hb2⟩
  case done =>
    rintro D ys W hD hS2 ⟨⟨v, hv, hrow, _⟩, hB⟩ hK2
    have hc := hv.cell
    gi_wp2
    refine ⟨by simp, .inl ⟨_, _, rfl, run_takeDeferred hK2, ?_⟩⟩
    refine ⟨_, results_tmp rfl _ _ _, v, ys, rfl, ownsRow_putObj hrow _ hK2 rfl, hS2.1, hS2.2, hB.trans (belowK_b (w := w) (Nat.le_refl _) W D _ _ (by simp at hD; omega) hK2 rfl rfl)⟩
  case stop =>
    rintro D c pre W _ _ h _
    exact h.elim
end
set_option maxHeartbeats 2000000 in
theorem collect.calls (gs gb c : Nat) (ad : Addr) (A : Option Addr) (K : Option Addr) (ck : Nat) (p : List Int) (s : List (List V)) (w : World) (hA : 0 < s.length → A = some ad)
  (hgs : w.cell? ⟨gs, 0, none⟩ = some (.slice A s.length c)) (hgb : w.cell? ⟨gb, 0, none⟩ = some (.slice K p.length ck)) (hsc : s.length ≤ c) (hck : p.length ≤ ck) (hS : Kd.C (Kd.slice 61 k61) w A s.length s) (hK : Kd.C (Kd.int .i64) w K p.length p) (hok : okR s = true) (lp : p.length ≤ 1000000) (hp : ∀ x ∈ s, placesIn p x = true) :
  Calls Tryz.prog 71 #[.func (.func 111) #[] #[.pointer (some ⟨gs, 0, none⟩), .pointer (some ⟨gb, 0, none⟩)]] w fun e W' => ∃ (v : Value) (xs : List (Nat × Nat)), e = .returned v ∧
   W'.ownsRow w.heap.size 22 1 v xs.length (xs.map (encP ad)) ∧ xs.map (segL s) = runs (atP p) s ∧ (∀ x ∈ xs, x.1 ≤ x.2 ∧ x.2 ≤ s.length) ∧ Below w.heap.size w W' := by
 have HC := Aside0.mk (appendSeq.calls gs gb c ad A K ck p s w hA hgs hgb hsc hck hS hK hok lp hp)
 clear hA hgs hgb hsc hck hS hK hok lp hp
 go_enter Tryz.func71, Tryz.ntmps71
 go_wp2_with (go_at_call 107; refine HC.out.mono ?_; rintro e w1 ⟨v1, xs1, rfl, h1, h2, h3, h4⟩; have H1 := Aside0.mk h1; have H2 := Aside0.mk h2; have H3 := Aside0.mk h3; have H4 := Aside0.mk h4; clear h1 h2 h3 h4)
 go_ret
 exact ⟨_, _, rfl, H1.out, H2.out, H3.out, H4.out⟩
end Go.Proofs.YtmhobbdedmjmnaaGreatDoor.Q
end
section
/- Each function reached is shown to return what the plain function beside it computes, wherever that is defined (written by a program of ours for this seat). -/
namespace Go.Proofs.YtmhobbdedmjmnaaGreatDoor.Q
open Go.RowKit Go.Proofs.YtmhobbdedmjmnaaGreatDoorW.PrintWords Go.Proofs.YtmhobbdedmjmnaaGreatDoorW.PrintLast Go.Proofs.YtmhobbdedmjmnaaGreatDoorW.PrintMore
attribute [local go_sem] max2_int min2_int max_two min_two max_three min_three max_four min_four   -- for this text's walks alone
set_option linter.unusedVariables false
set_option linter.unusedSimpArgs false
end Go.Proofs.YtmhobbdedmjmnaaGreatDoor.Q
end
section
/- Each function reached is shown to return what the plain function beside it computes, wherever that is defined (written by a program of ours for this seat). -/
namespace Go.Proofs.YtmhobbdedmjmnaaGreatDoor.Q
open Go.RowKit Go.Proofs.YtmhobbdedmjmnaaGreatDoorW.PrintWords Go.Proofs.YtmhobbdedmjmnaaGreatDoorW.PrintLast Go.Proofs.YtmhobbdedmjmnaaGreatDoorW.PrintMore
attribute [local go_sem] max2_int min2_int max_two min_two max_three min_three max_four min_four   -- for this text's walks alone
set_option linter.unusedVariables false
set_option linter.unusedSimpArgs false
end Go.Proofs.YtmhobbdedmjmnaaGreatDoor.Q
end
section
/- Each function reached is shown to return what the plain function beside it computes, wherever that is defined (written by a program of ours for this seat). -/
namespace Go.Proofs.YtmhobbdedmjmnaaGreatDoor.Q
open Go.RowKit Go.Proofs.YtmhobbdedmjmnaaGreatDoorW.PrintWords Go.Proofs.YtmhobbdedmjmnaaGreatDoorW.PrintLast Go.Proofs.YtmhobbdedmjmnaaGreatDoorW.PrintMore
attribute [local go_sem] max2_int min2_int max_two min_two max_three min_three max_four min_four   -- for this text's walks alone
set_option linter.unusedVariables false
set_option linter.unusedSimpArgs false
end Go.Proofs.YtmhobbdedmjmnaaGreatDoor.Q
end
section
/- Each function reached is shown to return what the plain function beside it computes, wherever that is defined (written by a program of ours for this seat). -/
namespace Go.Proofs.YtmhobbdedmjmnaaGreatDoor.Q
open Go.RowKit Go.Proofs.YtmhobbdedmjmnaaGreatDoorW.PrintWords Go.Proofs.YtmhobbdedmjmnaaGreatDoorW.PrintLast Go.Proofs.YtmhobbdedmjmnaaGreatDoorW.PrintMore
attribute [local go_sem] max2_int min2_int max_two min_two max_three min_three max_four min_four   -- for this text's walks alone
set_option linter.unusedVariables false
set_option linter.unusedSimpArgs false
end Go.Proofs.YtmhobbdedmjmnaaGreatDoor.Q
end
section
/- Each function reached is shown to return what the plain function beside it computes, wherever that is defined (written by a program of ours for this seat). -/
namespace Go.Proofs.YtmhobbdedmjmnaaGreatDoor.Q
open Go.RowKit Go.Proofs.YtmhobbdedmjmnaaGreatDoorW.PrintWords Go.Proofs.YtmhobbdedmjmnaaGreatDoorW.PrintLast Go.Proofs.YtmhobbdedmjmnaaGreatDoorW.PrintMore
attribute [local go_sem] max2_int min2_int max_two min_two max_three min_three max_four min_four   -- for this text's walks alone
set_option linter.unusedVariables false
set_option linter.unusedSimpArgs false
end Go.Proofs.YtmhobbdedmjmnaaGreatDoor.Q
end
section
/- Each function reached is shown to return what the plain function beside it computes, wherever that is defined (written by a program of ours for this seat). -/
namespace Go.Proofs.YtmhobbdedmjmnaaGreatDoor.Q
open Go.RowKit Go.Proofs.YtmhobbdedmjmnaaGreatDoorW.PrintWords Go.Proofs.YtmhobbdedmjmnaaGreatDoorW.PrintLast Go.Proofs.YtmhobbdedmjmnaaGreatDoorW.PrintMore
attribute [local go_sem] max2_int min2_int max_two min_two max_three min_three max_four min_four   -- for this text's walks alone
set_option linter.unusedVariables false
set_option linter.unusedSimpArgs false
end Go.Proofs.YtmhobbdedmjmnaaGreatDoor.Q
end
section
/- Each function reached is shown to return what the plain function beside it computes, wherever that is defined (written by a program of ours for this seat). -/
namespace Go.Proofs.YtmhobbdedmjmnaaGreatDoor.Q
open Go.RowKit Go.Proofs.YtmhobbdedmjmnaaGreatDoorW.PrintWords Go.Proofs.YtmhobbdedmjmnaaGreatDoorW.PrintLast Go.Proofs.YtmhobbdedmjmnaaGreatDoorW.PrintMore
attribute [local go_sem] max2_int min2_int max_two min_two max_three min_three max_four min_four   -- for this text's walks alone
set_option linter.unusedVariables false
set_option linter.unusedSimpArgs false
theorem groupsGG.calls (l0 : List (List V)) (A1 : Option Addr) (c1 : Nat) (l1 : List Int) (w : World) (gs gb n c : Nat) (A : Option Addr) (W : World) (hr1 : Kd.C (Kd.int .i64) w A1 l1.length l1) (hc1 : l1.length ≤ c1) (hok : okR l0 = true) (lp : l1.length ≤ 1000000) (hp : ∀ x ∈ l0, placesIn l1 x = true) (hb : Below w.heap.size w W)
    (hgs : W.heap[gs]? = some (.cells #[.slice A n c] 22 (0, 0))) (hgb : W.heap[gb]? = some (.cells #[.slice A1 l1.length c1] 34 (0, 0))) (hS : Kd.S (Kd.slice 61 k61) 40 W w.heap.size (fun _ => True) (.slice A n c) (sortBy (cfP l1) l0)) :
    Calls Tryz.prog 71 #[.func (.func 111) #[] #[.pointer (some ⟨gs, 0, none⟩), .pointer (some ⟨gb, 0, none⟩)]] W fun e w' => ∃ v : Value, e = .returned v ∧ IsGG w' (fun k => w.heap.size ≤ k) v ∧ Below w.heap.size w w' := by
  have hlen : (sortBy (cfP l1) l0).length = l0.length := (sortBy_perm _ _).length_eq
  have hmem : ∀ x, x ∈ sortBy (cfP l1) l0 ↔ x ∈ l0 := fun x => sortBy_mem
  have hok2 : okR (sortBy (cfP l1) l0) = true := by
    have h := okR_spec hok
    unfold okR
    rw [Bool.and_eq_true, decide_eq_true_eq, hlen, List.all_eq_true]
    exact ⟨h.1, fun x hx => decide_eq_true (h.2 x ((hmem x).1 hx))⟩
  obtain ⟨hn, hnc, hC⟩ := Kd.S_reads' hS
  obtain ⟨ad, hA⟩ : ∃ ad, 0 < (sortBy (cfP l1) l0).length → A = some ad := by
    by_cases h0 : 0 < (sortBy (cfP l1) l0).length
    · obtain ⟨g, cap, e, _⟩ := Kd.S_form hS h0
      injection e with e1 _ _
      exact ⟨_, fun _ => e1⟩
    · exact ⟨⟨0, 0, none⟩, fun h => absurd h h0⟩
  subst hn
  refine (collect.calls gs gb c ad A A1 c1 l1 _ W hA (blk_cell hgs 0) (blk_cell hgb 0) hnc hc1 hC (Kd.C_below hr1 hb) hok2 lp (fun x hx => hp x ((hmem x).1 hx))).mono ?_
  rintro e w' ⟨v, xs, rfl, h1, h2, h3, h4⟩
  refine ⟨v, rfl, ?_, below_step hb h4⟩
  have hlx : xs.length ≤ 1000000 := by
    have e := congrArg List.length h2
    rw [runs_groups, List.length_map, List.length_map] at e
    have h7 : (headsR l1 l0).length ≤ l0.length := Nat.le_trans (oneR_len _) (Nat.le_of_eq (List.length_map _))
    have h8 := (okR_spec hok).1
    omega
  exact isGG_cuts (isRR_of_S hS) hA h1 h3 h4 hlx
set_option maxRecDepth 100000 in
set_option maxHeartbeats 4000000 in
theorem rows_GroupsGG.calls (A0 : Option Addr) (c0 : Nat) (l0 : List (List V)) (A1 : Option Addr) (c1 : Nat) (l1 : List Int) (w : World) (hr0 : Kd.C (Kd.slice 61 k61) w A0 l0.length l0) (hc0 : l0.length ≤ c0) (hr1 : Kd.C (Kd.int .i64) w A1 l1.length l1) (hc1 : l1.length ≤ c1) (hs : smallE [l0] = 0) (hk : okR l0 = true ∧ l1.length ≤ 1000000) (hpb : placesB l0 l1 = true) :
    Calls Tryz.prog 36 #[.slice A0 l0.length c0, .slice A1 l1.length c1] w fun e w' => ∃ v0_ : Value, e = .returned (.tuple #[v0_, .int .i64 0]) ∧ IsGG w' (fun k => w.heap.size ≤ k) v0_ ∧ Below w.heap.size w w' := by
  have HS := Aside0.mk (fun W hb => small_one A0 c0 l0 w W hr0 hc0 hb)
  rw [hs] at HS
  have HPL := Aside0.mk (fun W (hb : Below w.heap.size w W) => rows_places.calls A0 c0 l0 A1 c1 l1 (placesB l0 l1) W (Kd.C_below hr0 hb) hc0 (Kd.C_below hr1 hb) hc1 (by
    unfold rows_places.f
    have := (okR_spec hk.1).1
    have := hk.2
    rw [if_pos ⟨by omega, by omega⟩]))
  rw [hpb] at HPL
  have hpi : ∀ x ∈ l0, placesIn l1 x = true := fun x hx => placesIn_mk fun q hq => by
    unfold placesB at hpb
    rw [Bool.not_eq_true'] at hpb
    have h1 := (List.any_eq_false.1 hpb) x hx
    rw [Bool.not_eq_true] at h1
    have h2 := (List.any_eq_false.1 h1) q hq
    rw [Bool.not_eq_true, Bool.or_eq_false_iff, decide_eq_false_iff_not, decide_eq_false_iff_not] at h2
    omega
  have HPA := Aside0.mk (fun W (hb : Below w.heap.size w W) => parted.calls A0 c0 l0 A1 c1 l1 W (Kd.C_below hr0 hb) hc0 (Kd.C_below hr1 hb) hc1 hk.1 hk.2 hpi)
  have HCO := Aside0.mk (fun (gs gb n c : Nat) (A : Option Addr) (W : World) (hb : Below w.heap.size w W) hgs hgb hS => groupsGG.calls l0 A1 c1 l1 w gs gb n c A W hr1 hc1 hk.1 hk.2 hpi hb hgs hgb hS)
  clear hr0 hc0 hr1 hc1 hs hk hpb hpi
  generalize l0.length = n0 at HS HPL HPA ⊢
  generalize l1.length = n1 at *
  go_enter Tryz.func36, Tryz.ntmps36
  go_wp2_with (first
    | (go_at_call 52; refine (HS.out _ (Below.refl _ _)).mono ?_; rintro e w1 ⟨rfl, hb1⟩; have HB1 := Aside0.mk hb1; clear hb1)
    | (go_at_call 58; refine (HPL.out _ HB1.out).mono ?_; rintro e w2 ⟨rfl, hb2⟩; have HB2 := Aside0.mk (below_step HB1.out hb2); clear hb2)
    | (go_at_call 72; refine (HPA.out _ HB2.out).mono ?_; rintro e w3 ⟨gs, gb, v3, rfl, hgs, hgb, hS3, hb3⟩; obtain ⟨A3, c3, rfl⟩ := Kd.S_slice hS3; have HB3 := Aside0.mk (below_step HB2.out hb3); have HC3 := Aside0.mk (HCO.out _ _ _ _ _ _ HB3.out hgs hgb (Kd.S_lower hS3 HB2.out.size)); clear hgs hgb hS3 hb3)
    | (go_at_call 71; refine HC3.out.mono ?_; rintro e w4 ⟨v4, rfl, hv4, hb4⟩; have HV4 := Aside0.mk hv4; have HB4 := Aside0.mk hb4; clear hv4 hb4))
  go_ret2
  exact ⟨_, rfl, HV4.out, HB4.out⟩
set_option maxRecDepth 100000 in
theorem make_six {ops : Array Oper} {rest : List Oper} {o : Oper} {a : Act} {Q : Exit → Act → World → Prop} {w0 W : World} {B : Nat} (hgd : o.guard = none) (x y : Operand) (ho : o.op = .makeSlice 55 x y) (hx : a.eval x = .int .i64 0) (hy : a.eval y = .int .i64 6) (HB : RowKit.Below B w0 W) (hB : B ≤ W.heap.size)
    (h : ∀ v w1, (Kd.raw 1).R 22 w1 B (fun _ => True) v [] → RowKit.Below B w0 w1 → W.heap.size ≤ w1.heap.size → wpList Tryz.prog ops Q rest (a.put o.dst v) w1) : wpList Tryz.prog ops Q (o :: rest) a W := by
  obtain ⟨i0, hi, hzz⟩ := Option.map_eq_some_iff.1 info22
  simp only [Prod.mk.injEq] at hzz
  obtain ⟨hz0, hz1, hz2⟩ := hzz
  obtain ⟨w', hr, hown, hg⟩ := run_make_own (P := Tryz.prog) W B 55 22 i0 (.slice none 0 0) 1 Tryz.underlying55 hi hz0 hz1 .i64 .i64 6 (by rw [hz2]; decide) (by decide) hB
  replace hr : (Instr.makeSlice 55 (.int .i64 0) (.int .i64 6)).run Tryz.prog W = .ok (.slice (some ⟨W.heap.size, 0, none⟩) 0 6) w' := hr
  refine wpList_plain hgd fun _ hK => ?_
  unfold Oper.wp execOp
  simp only [ho, hx, hy, Sem.run_bind, hr, Result.andThen_ok, Sem.run_pure]
  refine hK _ _ (h _ _ ⟨fun _ _ => trivial, [], hown, Reps.none _ _⟩ (HB.grown hg hB (fun _ h => by cases h)) hg.size)
def tacticianlaw02_RowsOwn.f (k : Nat) (l0 l1 : List (List V)) : Option Bool :=
  (tacticianlaw02_some.f k l0 12).bind fun a => (tacticianlaw02_some.f k l1 12).bind fun b => (tacticianref02_Copy.f k a).bind fun ka => (tacticianref02_Copy.f k b).bind fun kb => (rows_Canonical.f a).bind fun c => (rows_Distinct.f a).bind fun d => (rows_Both.f a b true).bind fun x => (rows_Minus.f a b false).bind fun y => (rows_Ordered.f a [(⟨1, false⟩ : KK)]).bind fun o =>
  (tacticianref02_Equal.f k a ka).bind fun e1 => (tacticianref02_Equal.f k b kb).bind fun e2 => (tacticianlaw02_awake.f).bind fun e3 =>
  if c.2 = 0 ∧ d.2 = 0 ∧ x.2 = 0 ∧ y.2 = 0 ∧ o.2 = 0 ∧ smallE [a] = 0 ∧ okR a = true ∧ placesB a [0] = true ∧ e1 = true ∧ e2 = true ∧ e3 = true then some true else none
set_option maxRecDepth 100000 in
set_option maxHeartbeats 8000000 in
theorem tacticianlaw02_RowsOwn.calls (k : Nat) (A0 : Option Addr) (c0 : Nat) (l0 : List (List (S61))) (A1 : Option Addr) (c1 : Nat) (l1 : List (List (S61))) (r : Bool) (w : World) (hr0 : Kd.C (Kd.slice 61 k61) w A0 l0.length l0) (hc0 : l0.length ≤ c0) (hr1 : Kd.C (Kd.slice 61 k61) w A1 l1.length l1) (hc1 : l1.length ≤ c1) (hL_ : Laid w) (hr_ : Aside0 (r = true)) (h : tacticianlaw02_RowsOwn.f k l0 l1 = some r) :
  Calls Tryz.prog 8 #[.slice A0 l0.length c0, .slice A1 l1.length c1] w fun e w' => e = .returned (.bool r) ∧ Below w.heap.size w w' := by
 obtain rfl := hr_.out
 clear hr_
 unfold tacticianlaw02_RowsOwn.f at h
 obtain ⟨a, E1, h⟩ := Option.bind_eq_some_iff.mp h
 obtain ⟨b, E2, h⟩ := Option.bind_eq_some_iff.mp h
 obtain ⟨ka, E3, h⟩ := Option.bind_eq_some_iff.mp h
 obtain ⟨kb, E4, h⟩ := Option.bind_eq_some_iff.mp h
 obtain ⟨⟨c, ec⟩, E5, h⟩ := Option.bind_eq_some_iff.mp h
 obtain ⟨⟨d, ed⟩, E6, h⟩ := Option.bind_eq_some_iff.mp h
 obtain ⟨⟨x, ex⟩, E7, h⟩ := Option.bind_eq_some_iff.mp h
 obtain ⟨⟨y, ey⟩, E8, h⟩ := Option.bind_eq_some_iff.mp h
 obtain ⟨⟨o, eo⟩, E9, h⟩ := Option.bind_eq_some_iff.mp h
 obtain ⟨e1, E10, h⟩ := Option.bind_eq_some_iff.mp h
 obtain ⟨e2, E11, h⟩ := Option.bind_eq_some_iff.mp h
 obtain ⟨e3, E12, h⟩ := Option.bind_eq_some_iff.mp h
 dsimp only at h
 by_cases hc : ec = 0 ∧ ed = 0 ∧ ex = 0 ∧ ey = 0 ∧ eo = 0 ∧ smallE [a] = 0 ∧ okR a = true ∧ placesB a [0] = true ∧ e1 = true ∧ e2 = true ∧ e3 = true
 case neg => rw [if_neg hc] at h; cases h
 clear h
 obtain ⟨rfl, rfl, rfl, rfl, rfl, hsm, hok, hpl, rfl, rfl, rfl⟩ := hc
 have HLD := Aside0.mk hL_
 have HS1 := Aside0.mk (fun W (hb : Below w.heap.size w W) => tacticianlaw02_some.calls k A0 c0 l0 12 a W (Kd.C_below hr0 hb) hc0 E1)
 have HS2 := Aside0.mk (fun W (hb : Below w.heap.size w W) => tacticianlaw02_some.calls k A1 c1 l1 12 b W (Kd.C_below hr1 hb) hc1 E2)
 have HK1 := Aside0.mk (fun A cc W (h1 : Kd.C (Kd.slice 61 k61) W A a.length a) (h2 : a.length ≤ cc) => tacticianref02_Copy.calls k A cc a ka W h1 h2 E3)
 have HK2 := Aside0.mk (fun A cc W (h1 : Kd.C (Kd.slice 61 k61) W A b.length b) (h2 : b.length ≤ cc) => tacticianref02_Copy.calls k A cc b kb W h1 h2 E4)
 have HF1 := Aside0.mk (fun A cc W (h1 : Kd.C (Kd.slice 61 k61) W A a.length a) (h2 : a.length ≤ cc) => rows_Canonical.calls A cc a c 0 W h1 h2 E5)
 have HF2 := Aside0.mk (fun A cc W (h1 : Kd.C (Kd.slice 61 k61) W A a.length a) (h2 : a.length ≤ cc) => rows_Distinct.calls A cc a d 0 W h1 h2 E6)
 have HF3 := Aside0.mk (fun A cc A' cc' W (h1 : Kd.C (Kd.slice 61 k61) W A a.length a) (h2 : a.length ≤ cc) (h3 : Kd.C (Kd.slice 61 k61) W A' b.length b) (h4 : b.length ≤ cc') hL => rows_Both.calls A cc a A' cc' b true x 0 W h1 h2 h3 h4 hL E7)
 have HF4 := Aside0.mk (fun A cc A' cc' W (h1 : Kd.C (Kd.slice 61 k61) W A a.length a) (h2 : a.length ≤ cc) (h3 : Kd.C (Kd.slice 61 k61) W A' b.length b) (h4 : b.length ≤ cc') hL => rows_Minus.calls A cc a A' cc' b false y 0 W h1 h2 h3 h4 hL E8)
 have HF5 := Aside0.mk (fun A cc A' cc' W (h1 : Kd.C (Kd.slice 61 k61) W A a.length a) (h2 : a.length ≤ cc) (h3 : Kd.C k36 W A' 1 [(⟨1, false⟩ : KK)]) (h4 : 1 ≤ cc') => rows_Ordered.calls A cc a A' cc' [(⟨1, false⟩ : KK)] o 0 W h1 h2 h3 h4 E9)
 have HF6 := Aside0.mk (fun A cc A' cc' W (h1 : Kd.C (Kd.slice 61 k61) W A a.length a) (h2 : a.length ≤ cc) (h3 : Kd.C (Kd.int .i64) W A' 1 [0]) (h4 : 1 ≤ cc') => rows_GroupsGG.calls A cc a A' cc' [0] W h1 h2 h3 h4 hsm ⟨hok, by decide⟩ hpl)
 have HE1 := Aside0.mk (fun A cc A' cc' W (h1 : Kd.C (Kd.slice 61 k61) W A a.length a) (h2 : a.length ≤ cc) (h3 : Kd.C (Kd.slice 61 k61) W A' ka.length ka) (h4 : ka.length ≤ cc') => tacticianref02_Equal.calls k A cc a A' cc' ka true W h1 h2 h3 h4 E10)
 have HE2 := Aside0.mk (fun A cc A' cc' W (h1 : Kd.C (Kd.slice 61 k61) W A b.length b) (h2 : b.length ≤ cc) (h3 : Kd.C (Kd.slice 61 k61) W A' kb.length kb) (h4 : kb.length ≤ cc') => tacticianref02_Equal.calls k A cc b A' cc' kb true W h1 h2 h3 h4 E11)
 have HE3 := Aside0.mk (fun W hL => tacticianlaw02_awake.calls true W hL E12)
 have HB0 := Aside0.mk (Below.refl w.heap.size w)
 clear hL_ hr0 hc0 hr1 hc1 E1 E2 E3 E4 E5 E6 E7 E8 E9 E10 E11 E12 hsm hok hpl
 generalize l0.length = n0 at *
 generalize l1.length = n1 at *
 go_enter Tryz.func8, Tryz.ntmps8
 go_upto_region 3 with (first
  | (go_at_call 38; refine (HS1.out _ (by repeat (first | (with_reducible first | exact HB0.out | apply yA | apply yN | apply yD) | exact HB0.out))).mono ?_; rintro e w1 ⟨v1, rfl, hv, hb⟩; obtain ⟨Aa, ca, rfl⟩ := Kd.S_slice hv; have hrd := Kd.S_reads' hv; have HCA := Aside0.mk hrd.2.2; have HLA := Aside0.mk hrd.2.1; have n0_ := Aside0.mk (below_step (by repeat (first | (with_reducible first | exact HB0.out | apply yA | apply yN | apply yD) | exact HB0.out)) hb); clear HB0; have HB0 := n0_; clear n0_ hrd hv hb HS1)
  | (go_at_call 38; refine (HS2.out _ (by repeat (first | (with_reducible first | exact HB0.out | apply yA | apply yN | apply yD) | exact HB0.out))).mono ?_; rintro e w2 ⟨v2, rfl, hv, hb⟩; obtain ⟨Ab, cb, rfl⟩ := Kd.S_slice hv; have hrd := Kd.S_reads' hv; have HCB := Aside0.mk hrd.2.2; have HLB := Aside0.mk hrd.2.1; have n0_ := Aside0.mk (below_step (by repeat (first | (with_reducible first | exact HB0.out | apply yA | apply yN | apply yD) | exact HB0.out)) hb); have n1_ := Aside0.mk (Kd.C_below HCA.out (below_step (by repeat (first | (with_reducible first | exact Below.refl _ _ | apply yA | apply yN | apply yD) | exact Below.refl _ _)) hb)); clear HB0 HCA; have HB0 := n0_; have HCA := n1_; clear n0_ n1_ hrd hv hb HS2)
  | (go_at_call 39; refine (HK1.out _ _ _ (Kd.C_below HCA.out (by repeat (first | (with_reducible first | exact Below.refl _ _ | apply yA | apply yN | apply yD) | exact Below.refl _ _))) HLA.out).mono ?_; rintro e w3 ⟨v3, rfl, hv, hb⟩; obtain ⟨Ak, ck, rfl⟩ := Kd.S_slice hv; have hrd := Kd.S_reads' hv; have HCK := Aside0.mk hrd.2.2; have HLK := Aside0.mk hrd.2.1; have n0_ := Aside0.mk (below_step (by repeat (first | (with_reducible first | exact HB0.out | apply yA | apply yN | apply yD) | exact HB0.out)) hb); have n1_ := Aside0.mk (Kd.C_below HCA.out (below_step (by repeat (first | (with_reducible first | exact Below.refl _ _ | apply yA | apply yN | apply yD) | exact Below.refl _ _)) hb)); have n2_ := Aside0.mk (Kd.C_below HCB.out (below_step (by repeat (first | (with_reducible first | exact Below.refl _ _ | apply yA | apply yN | apply yD) | exact Below.refl _ _)) hb)); clear HB0 HCA HCB; have HB0 := n0_; have HCA := n1_; have HCB := n2_; clear n0_ n1_ n2_ hrd hv hb HK1)
  | (go_at_call 39; refine (HK2.out _ _ _ (Kd.C_below HCB.out (by repeat (first | (with_reducible first | exact Below.refl _ _ | apply yA | apply yN | apply yD) | exact Below.refl _ _))) HLB.out).mono ?_; rintro e w4 ⟨v4, rfl, hv, hb⟩; obtain ⟨Am, cm, rfl⟩ := Kd.S_slice hv; have hrd := Kd.S_reads' hv; have HCM := Aside0.mk hrd.2.2; have HLM := Aside0.mk hrd.2.1; have n0_ := Aside0.mk (below_step (by repeat (first | (with_reducible first | exact HB0.out | apply yA | apply yN | apply yD) | exact HB0.out)) hb); have n1_ := Aside0.mk (Kd.C_below HCA.out (below_step (by repeat (first | (with_reducible first | exact Below.refl _ _ | apply yA | apply yN | apply yD) | exact Below.refl _ _)) hb)); have n2_ := Aside0.mk (Kd.C_below HCB.out (below_step (by repeat (first | (with_reducible first | exact Below.refl _ _ | apply yA | apply yN | apply yD) | exact Below.refl _ _)) hb)); have n3_ := Aside0.mk (Kd.C_below HCK.out (below_step (by repeat (first | (with_reducible first | exact Below.refl _ _ | apply yA | apply yN | apply yD) | exact Below.refl _ _)) hb)); clear HB0 HCA HCB HCK; have HB0 := n0_; have HCA := n1_; have HCB := n2_; have HCK := n3_; clear n0_ n1_ n2_ n3_ hrd hv hb HK2))
 have HB := Aside0.mk (Below.refl w4.heap.size w4)
 go_wp2_with (first
  | ((with_reducible refine gate_dst (N := 33) rfl ?_); refine make_six (w0 := w4) (B := w4.heap.size) rfl _ _ rfl rfl rfl (by repeat (first | (with_reducible first | exact HB.out | apply yA | apply yN | apply yD) | exact HB.out)) (below_size (by repeat (first | (with_reducible first | exact HB.out | apply yA | apply yN | apply yD) | exact HB.out))) ?_; intro vl0 w5 hR hb hsz; have n0_ := Aside0.mk (hb); have n1_ := Aside0.mk (hR); clear HB; have HB := n0_; have HL := n1_; clear n0_ n1_; clear hR hb hsz)
  | (go_at_call 28; refine (HF1.out _ _ _ (Kd.C_below HCA.out (by repeat (first | (with_reducible first | exact HB.out | apply yA | apply yN | apply yD) | exact HB.out))) HLA.out).mono ?_; rintro e w6 ⟨vc, rfl, hv, hb⟩; obtain ⟨Ac, cc, rfl⟩ := Kd.S_slice hv; have hst := below_step (by repeat (first | (with_reducible first | exact Below.refl _ _ | apply yA | apply yN | apply yD) | exact Below.refl _ _) : RowKit.Below w5.heap.size w5 _) hb; have hS := okl_new (isRR_of_S hv) HL.out (below_size (by repeat (first | (with_reducible first | exact Below.refl _ _ | apply yA | apply yN | apply yD) | exact Below.refl _ _) : RowKit.Below w5.heap.size w5 _)) (below_size (by repeat (first | (with_reducible first | exact HB.out | apply yA | apply yN | apply yD) | exact HB.out))); have n0_ := Aside0.mk (below_step (by repeat (first | (with_reducible first | exact HB.out | apply yA | apply yN | apply yD) | exact HB.out)) hb); have n1_ := Aside0.mk (Kd.R_below HL.out hst); have n2_ := Aside0.mk (hS); clear HB HL; have HB := n0_; have HL := n1_; have HRc := n2_; clear n0_ n1_ n2_; clear hS hst hv hb HF1)
  | (go_at_call 40; refine (HF2.out _ _ _ (Kd.C_below HCA.out (by repeat (first | (with_reducible first | exact HB.out | apply yA | apply yN | apply yD) | exact HB.out))) HLA.out).mono ?_; rintro e w7 ⟨vd, rfl, hv, hb⟩; obtain ⟨Ad, cd, rfl⟩ := Kd.S_slice hv; have hst := below_step (by repeat (first | (with_reducible first | exact Below.refl _ _ | apply yA | apply yN | apply yD) | exact Below.refl _ _) : RowKit.Below w6.heap.size w6 _) hb; have hS := okl_new (isRR_of_S hv) HL.out (below_size (by repeat (first | (with_reducible first | exact Below.refl _ _ | apply yA | apply yN | apply yD) | exact Below.refl _ _) : RowKit.Below w6.heap.size w6 _)) (below_size (by repeat (first | (with_reducible first | exact HB.out | apply yA | apply yN | apply yD) | exact HB.out))); have n0_ := Aside0.mk (below_step (by repeat (first | (with_reducible first | exact HB.out | apply yA | apply yN | apply yD) | exact HB.out)) hb); have n1_ := Aside0.mk (Kd.R_below HL.out hst); have n2_ := Aside0.mk (HRc.out.sim (Sim.below hst)); have n3_ := Aside0.mk (hS); clear HB HL HRc; have HB := n0_; have HL := n1_; have HRc := n2_; have HRd := n3_; clear n0_ n1_ n2_ n3_; clear hS hst hv hb HF2)
  | (go_at_call 15; refine (HF3.out _ _ _ _ _ (Kd.C_below HCA.out (by repeat (first | (with_reducible first | exact HB.out | apply yA | apply yN | apply yD) | exact HB.out))) HLA.out (Kd.C_below HCB.out (by repeat (first | (with_reducible first | exact HB.out | apply yA | apply yN | apply yD) | exact HB.out))) HLB.out (HLD.out.below (below_then HB0.out HB0.out.size (by repeat (first | (with_reducible first | exact HB.out | apply yA | apply yN | apply yD) | exact HB.out))))).mono ?_; rintro e w8 ⟨vx, rfl, hv, hb⟩; obtain ⟨Ax, cx, rfl⟩ := Kd.S_slice hv; have hst := below_step (by repeat (first | (with_reducible first | exact Below.refl _ _ | apply yA | apply yN | apply yD) | exact Below.refl _ _) : RowKit.Below w7.heap.size w7 _) hb; have hS := okl_new (isRR_of_S hv) HL.out (below_size (by repeat (first | (with_reducible first | exact Below.refl _ _ | apply yA | apply yN | apply yD) | exact Below.refl _ _) : RowKit.Below w7.heap.size w7 _)) (below_size (by repeat (first | (with_reducible first | exact HB.out | apply yA | apply yN | apply yD) | exact HB.out))); have n0_ := Aside0.mk (below_step (by repeat (first | (with_reducible first | exact HB.out | apply yA | apply yN | apply yD) | exact HB.out)) hb); have n1_ := Aside0.mk (Kd.R_below HL.out hst); have n2_ := Aside0.mk (HRc.out.sim (Sim.below hst)); have n3_ := Aside0.mk (HRd.out.sim (Sim.below hst)); have n4_ := Aside0.mk (hS); clear HB HL HRc HRd; have HB := n0_; have HL := n1_; have HRc := n2_; have HRd := n3_; have HRx := n4_; clear n0_ n1_ n2_ n3_ n4_; clear hS hst hv hb HF3)
  | (go_at_call 16; refine (HF4.out _ _ _ _ _ (Kd.C_below HCA.out (by repeat (first | (with_reducible first | exact HB.out | apply yA | apply yN | apply yD) | exact HB.out))) HLA.out (Kd.C_below HCB.out (by repeat (first | (with_reducible first | exact HB.out | apply yA | apply yN | apply yD) | exact HB.out))) HLB.out (HLD.out.below (below_then HB0.out HB0.out.size (by repeat (first | (with_reducible first | exact HB.out | apply yA | apply yN | apply yD) | exact HB.out))))).mono ?_; rintro e w9 ⟨vy, rfl, hv, hb⟩; obtain ⟨Ay, cy, rfl⟩ := Kd.S_slice hv; have hst := below_step (by repeat (first | (with_reducible first | exact Below.refl _ _ | apply yA | apply yN | apply yD) | exact Below.refl _ _) : RowKit.Below w8.heap.size w8 _) hb; have hS := okl_new (isRR_of_S hv) HL.out (below_size (by repeat (first | (with_reducible first | exact Below.refl _ _ | apply yA | apply yN | apply yD) | exact Below.refl _ _) : RowKit.Below w8.heap.size w8 _)) (below_size (by repeat (first | (with_reducible first | exact HB.out | apply yA | apply yN | apply yD) | exact HB.out))); have n0_ := Aside0.mk (below_step (by repeat (first | (with_reducible first | exact HB.out | apply yA | apply yN | apply yD) | exact HB.out)) hb); have n1_ := Aside0.mk (Kd.R_below HL.out hst); have n2_ := Aside0.mk (HRc.out.sim (Sim.below hst)); have n3_ := Aside0.mk (HRd.out.sim (Sim.below hst)); have n4_ := Aside0.mk (HRx.out.sim (Sim.below hst)); have n5_ := Aside0.mk (hS); clear HB HL HRc HRd HRx; have HB := n0_; have HL := n1_; have HRc := n2_; have HRd := n3_; have HRx := n4_; have HRy := n5_; clear n0_ n1_ n2_ n3_ n4_ n5_; clear hS hst hv hb HF4)
  | (go_at_call 22; refine (HF5.out _ _ _ _ _ (Kd.C_below HCA.out (by repeat (first | (with_reducible first | exact HB.out | apply yA | apply yN | apply yD) | exact HB.out))) HLA.out (keyLitF (blk_new _ _)) (by decide)).mono ?_; rintro e w10 ⟨vo, rfl, hv, hb⟩; obtain ⟨Ao, co, rfl⟩ := Kd.S_slice hv; have hst := below_step (by repeat (first | (with_reducible first | exact Below.refl _ _ | apply yA | apply yN | apply yD) | exact Below.refl _ _) : RowKit.Below w9.heap.size w9 _) hb; have hS := okl_new (isRR_of_S hv) HL.out (below_size (by repeat (first | (with_reducible first | exact Below.refl _ _ | apply yA | apply yN | apply yD) | exact Below.refl _ _) : RowKit.Below w9.heap.size w9 _)) (below_size (by repeat (first | (with_reducible first | exact HB.out | apply yA | apply yN | apply yD) | exact HB.out))); have n0_ := Aside0.mk (below_step (by repeat (first | (with_reducible first | exact HB.out | apply yA | apply yN | apply yD) | exact HB.out)) hb); have n1_ := Aside0.mk (Kd.R_below HL.out hst); have n2_ := Aside0.mk (HRc.out.sim (Sim.below hst)); have n3_ := Aside0.mk (HRd.out.sim (Sim.below hst)); have n4_ := Aside0.mk (HRx.out.sim (Sim.below hst)); have n5_ := Aside0.mk (HRy.out.sim (Sim.below hst)); have n6_ := Aside0.mk (hS); clear HB HL HRc HRd HRx HRy; have HB := n0_; have HL := n1_; have HRc := n2_; have HRd := n3_; have HRx := n4_; have HRy := n5_; have HRo := n6_; clear n0_ n1_ n2_ n3_ n4_ n5_ n6_; clear hS hst hv hb HF5)
  | (at_builtin; refine Kd.R_append_rows (Kd.raw 1) (w0 := w4) w4.heap.size rfl _ _ 55 22 (.slice none 0 0) 24 rfl Tryz.underlying55 info22 rfl (by decide) (by decide) vl0 [] ([[.slice Ac c.length cc], [.slice Ad d.length cd], [.slice Ax x.length cx], [.slice Ay y.length cy], [.slice Ao o.length co]] : List (List Value)) _ 5 5 (fun _ => True) (fun _ => False) (by first | rfl | (go_simp; done) | (go_simp; rfl)) (by first | rfl | (go_simp; done) | (go_simp; rfl)) (by (with_reducible repeat (first | apply Kd.R_alloc | apply Kd.R_drewN | apply Kd.R_drew)); exact HL.out) (C_lit rfl (blk_new _ _) (Reps.one (raw_one _ _ rfl) (Reps.one (raw_one _ _ rfl) (Reps.one (raw_one _ _ rfl) (Reps.one (raw_one _ _ rfl) (Reps.one (raw_one _ _ rfl) (Reps.none _ _)))))) (show 5 ≤ 1000 by decide)) (fun _ _ h => h) (fun _ h => h.elim) (fun _ _ => trivial) (by repeat (first | (with_reducible first | exact HB.out | apply yA | apply yN | apply yD) | exact HB.out)) (below_size (by repeat (first | (with_reducible first | exact HB.out | apply yA | apply yN | apply yD) | exact HB.out))) (by decide) ?_; intro vl1 w11 hR hb hg hat; have HU := Aside0.mk (own5 (HRc.out.sim (Sim.below (by repeat (first | (with_reducible first | exact Below.refl _ _ | apply yA | apply yN | apply yD) | exact Below.refl _ _) : RowKit.Below w10.heap.size w10 _))) (HRd.out.sim (Sim.below (by repeat (first | (with_reducible first | exact Below.refl _ _ | apply yA | apply yN | apply yD) | exact Below.refl _ _) : RowKit.Below w10.heap.size w10 _))) (HRx.out.sim (Sim.below (by repeat (first | (with_reducible first | exact Below.refl _ _ | apply yA | apply yN | apply yD) | exact Below.refl _ _) : RowKit.Below w10.heap.size w10 _))) (HRy.out.sim (Sim.below (by repeat (first | (with_reducible first | exact Below.refl _ _ | apply yA | apply yN | apply yD) | exact Below.refl _ _) : RowKit.Below w10.heap.size w10 _))) (HRo.out.sim (Sim.below (by repeat (first | (with_reducible first | exact Below.refl _ _ | apply yA | apply yN | apply yD) | exact Below.refl _ _) : RowKit.Below w10.heap.size w10 _))) hg hat); have n0_ := Aside0.mk (hb); have n1_ := Aside0.mk (hR); clear HB HL; have HB := n0_; have HL := n1_; clear n0_ n1_; clear HRc HRd HRx HRy HRo hR hb hg hat)
  | (go_at_call 36; refine (HF6.out _ _ _ _ _ (Kd.C_below HCA.out (by repeat (first | (with_reducible first | exact HB.out | apply yA | apply yN | apply yD) | exact HB.out))) HLA.out (C_lit rfl (blk_new _ _) (Reps.one rfl (Reps.none _ _)) (show 1 ≤ 1000 by decide)) (by decide)).mono ?_; rintro e w12 ⟨vg, rfl, hv, hb⟩; have hst := below_step (by repeat (first | (with_reducible first | exact Below.refl _ _ | apply yA | apply yN | apply yD) | exact Below.refl _ _) : RowKit.Below w11.heap.size w11 _) hb; have hGG := hv.okl HL.out (below_size (by repeat (first | (with_reducible first | exact Below.refl _ _ | apply yA | apply yN | apply yD) | exact Below.refl _ _) : RowKit.Below w11.heap.size w11 _)) (below_size (by repeat (first | (with_reducible first | exact HB.out | apply yA | apply yN | apply yD) | exact HB.out))); obtain ⟨Ag, ng, cg, ys, rfl, hng, hRR, hys⟩ := hGG; have n0_ := Aside0.mk (below_step (by repeat (first | (with_reducible first | exact HB.out | apply yA | apply yN | apply yD) | exact HB.out)) hb); have n1_ := Aside0.mk (Kd.R_below HL.out hst); have n2_ := Aside0.mk (HU.out.sim (Sim.below hst)); have n3_ := Aside0.mk (hng); have n4_ := Aside0.mk (hRR); have n5_ := Aside0.mk (hys); clear HB HL HU; have HB := n0_; have HL := n1_; have HU := n2_; have HNG := n3_; have HRR := n4_; have HYS := n5_; clear n0_ n1_ n2_ n3_ n4_ n5_; clear hng hRR hys hst hv hb HF6)
  | (at_builtin; go_loud (refine Kd.R_append_rows (Kd.raw 1) (w0 := w4) w4.heap.size rfl _ _ 55 22 (.slice none 0 0) 24 rfl Tryz.underlying55 info22 rfl (by decide) (by decide) vl1 ([] ++ ([[.slice Ac c.length cc], [.slice Ad d.length cd], [.slice Ax x.length cx], [.slice Ay y.length cy], [.slice Ao o.length co]] : List (List Value))) ys Ag ng cg (fun _ => True) (fun _ => False) (by first | rfl | (go_simp; done) | (go_simp; rfl)) (by first | rfl | (go_simp; done) | (go_simp; rfl)) (by (with_reducible repeat (first | apply Kd.R_alloc | apply Kd.R_drewN | apply Kd.R_drew)); exact HL.out) (Kd.C_below (d := Kd.raw 1) HRR.out (by repeat (first | (with_reducible first | exact Below.refl _ _ | apply yA | apply yN | apply yD) | exact Below.refl _ _) : RowKit.Below w12.heap.size w12 _)) (fun _ _ h => h) (fun _ h => h.elim) (fun _ _ => trivial) (by repeat (first | (with_reducible first | exact HB.out | apply yA | apply yN | apply yD) | exact HB.out)) (below_size (by repeat (first | (with_reducible first | exact HB.out | apply yA | apply yN | apply yD) | exact HB.out))) (by have := HNG.out; show (5 + ng) * 24 ≤ 140737488355328; omega) ?_; intro vl2 w13 hR hb hg hat; have hH := held_all hb hR (HU.out.sim (Sim.below (by repeat (first | (with_reducible first | exact Below.refl _ _ | apply yA | apply yN | apply yD) | exact Below.refl _ _) : RowKit.Below w12.heap.size w12 _))) (fun r hr => (by obtain ⟨u_, e_, h_⟩ := HYS.out r hr; exact ⟨u_, e_, h_.sim (Sim.below (by repeat (first | (with_reducible first | exact Below.refl _ _ | apply yA | apply yN | apply yD) | exact Below.refl _ _) : RowKit.Below w12.heap.size w12 _))⟩)) hg hat; have hln : (([] : List (List Value)) ++ ([[.slice Ac c.length cc], [.slice Ad d.length cd], [.slice Ax x.length cx], [.slice Ay y.length cy], [.slice Ao o.length co]] : List (List Value)) ++ ys).length = 5 + ng := (by have := HRR.out.1; rw [List.length_append]; show 5 + ys.length = 5 + ng; omega); obtain ⟨rows, hrw⟩ : ∃ rows : List (List Value), rows = ([] ++ ([[.slice Ac c.length cc], [.slice Ad d.length cd], [.slice Ax x.length cx], [.slice Ay y.length cy], [.slice Ao o.length co]] : List (List Value)) ++ ys) := ⟨_, rfl⟩; rw [← hrw] at hR hln; replace hH : Held w4.heap.size vl2 rows w4 w13 := (by rw [hrw]; exact hH); obtain ⟨gl, cl, e2, _⟩ := Kd.R_form hR (by omega); obtain ⟨nr, hnr⟩ : ∃ nr, nr = rows.length := ⟨_, rfl⟩; rw [← hnr] at e2; subst e2; have HH := Aside0.mk hH; have HNR := Aside0.mk hnr; have HNL := Aside0.mk (show nr ≤ 2000000 from (by have := HNG.out; omega)); clear HB HL HU HNG HRR HYS hH hR hb hg hat hln hrw hnr)))
 have HSZ := Aside0.mk (Nat.le_refl w4.heap.size)
 go_loopg [22] nr (fun gg s22 wr => ∃ n : Nat, n ≤ nr ∧ nr - n ≤ gg ∧ s22 = .int .i64 n ∧ Aside0 (Held w4.heap.size (.slice (some ⟨gl, 0, none⟩) nr cl) rows w4 wr))
 case atStart => exact ⟨0, Nat.zero_le _, by omega, rfl, ⟨HH.out.next HH.out.below.size (by repeat (first | (with_reducible first | exact Below.refl _ _ | apply yA | apply yN | apply yD) | exact Below.refl _ _) : RowKit.Below w13.heap.size w13 _)⟩⟩
 case round =>
  clear HH
  obtain ⟨n, hn, hg, rfl, HH⟩ := hrel
  have hnl := HNL.out
  by_cases hlt : n < nr
  ·have hltz : (n : Int) < (nr : Int) := by omega
   obtain ⟨An, nn, cn, hrow, hnn⟩ := HH.out.one (n := n) (by rw [← HNR.out]; exact hlt)
   have HRW := Aside0.mk hrow
   have HNN := Aside0.mk hnn
   clear hrow hnn
   go_wp2
   go_loopg [23] nn (fun gq s23 wq => ∃ m : Nat, m ≤ nn ∧ nn - m ≤ gq ∧ s23 = .int .i64 m ∧ Aside0 (Held w4.heap.size (.slice (some ⟨gl, 0, none⟩) nr cl) rows w4 wq))
   case atStart => exact ⟨0, Nat.zero_le _, by omega, rfl, ⟨HH.out.next HH.out.below.size (by repeat (first | (with_reducible first | exact Below.refl _ _ | apply yA | apply yN | apply yD) | exact Below.refl _ _) : RowKit.Below wr.heap.size wr _)⟩⟩
   case round =>
    clear HH
    obtain ⟨m, hm, hgq, rfl, HH⟩ := hrel
    have hnn := HNN.out
    have hx1 := HH.out.cell HRW.out
    by_cases hlm : m < nn
    ·have hlmz : (m : Int) < (nn : Int) := by omega
     obtain ⟨g2, o2, A3, n3, c3, rfl, hg2, hf2, hx2, hrow3, hn3⟩ := (HH.out.rr HRW.out).at hlm
     have HX2 := Aside0.mk hx2
     have HR3 := Aside0.mk hrow3
     have HN3 := Aside0.mk hn3
     have HG2 := Aside0.mk hg2
     have HFR := Aside0.mk hf2
     clear hx2 hrow3 hn3 hg2 hf2
     go_wp2
     go_loopg [24] n3 (fun gz s24 wz => ∃ kk : Nat, kk ≤ n3 ∧ n3 - kk ≤ gz ∧ s24 = .int .i64 kk ∧ Aside0 (Held w4.heap.size (.slice (some ⟨gl, 0, none⟩) nr cl) rows w4 wz) ∧ Aside0 (wz.cell? ⟨g2, o2 + m, none⟩ = some (.slice A3 n3 c3)) ∧ Aside0 (IsRow wz (okl w4.heap.size (.slice (some ⟨gl, 0, none⟩) nr cl)) (.slice A3 n3 c3)) ∧ Aside0 (Free wz g2))
     case atStart => exact ⟨0, Nat.zero_le _, by omega, rfl, ⟨HH.out.next HH.out.below.size (by repeat (first | (with_reducible first | exact Below.refl _ _ | apply yA | apply yN | apply yD) | exact Below.refl _ _) : RowKit.Below wr.heap.size wr _)⟩, ⟨cell_keeps (by repeat (first | (with_reducible first | exact Below.refl _ _ | apply yA | apply yN | apply yD) | exact Below.refl _ _) : RowKit.Below wr.heap.size wr _) HX2.out⟩, ⟨HR3.out.sim (Sim.below (by repeat (first | (with_reducible first | exact Below.refl _ _ | apply yA | apply yN | apply yD) | exact Below.refl _ _) : RowKit.Below wr.heap.size wr _))⟩, ⟨free_block (((by repeat (first | (with_reducible first | exact Below.refl _ _ | apply yA | apply yN | apply yD) | exact Below.refl _ _) : RowKit.Below wr.heap.size wr _)).block _ (World.block_lt_of_cell? _ _ HX2.out)) HFR.out⟩⟩
     case round =>
      clear HH HX2 HR3 HFR hx1
      obtain ⟨kk, hkk, hgz, rfl, HH, HX2, HR3, HFR⟩ := hrel
      have hn3 := HN3.out
      have hx1 := HH.out.cell HRW.out
      have hx2 := HX2.out
      by_cases hlk : kk < n3
      ·have hlkz : (kk : Int) < (n3 : Int) := by omega
       obtain ⟨g3, va, vb, vs, rfl, hg3, hf3, hv0, hv1, hv2⟩ := HR3.out.at hlk
       have HG3 := Aside0.mk hg3
       have HV0 := Aside0.mk hv0
       have HV1 := Aside0.mk hv1
       have HV2 := Aside0.mk hv2
       have HF3 := Aside0.mk hf3
       clear hg3 hf3 hv0 hv1 hv2
       go_wp2
       go_region_held3 (fun w' => w'.cell? ⟨gl, n, none⟩ = some (.slice (some ⟨g2, o2, none⟩) nn cn) ∧ w'.cell? ⟨g2, o2 + m, none⟩ = some (.slice (some ⟨g3, 0, none⟩) n3 c3))
        (first | exact kq | exact ⟨hx1, hx2⟩ | exact ⟨(HH1.out.value 1 99 ⟨#[]⟩ HG3.out hv0 hv1 hv2).2.2 _ _ _ _ kq.1, (HH1.out.value 1 99 ⟨#[]⟩ HG3.out hv0 hv1 hv2).2.2 _ _ _ _ kq.2⟩ | go_keep)
        (first
         | (go_at_call 41; refine (tacticianref01_Int.calls 99 1 99 ⟨#[]⟩ _ rfl).mono ?_; rintro e wk ⟨rfl, hb⟩; have hst := below_step (by repeat (first | (with_reducible first | exact Below.refl _ _ | apply yA | apply yN | apply yD) | exact Below.refl _ _) : RowKit.Below wr.heap.size wr _) hb; have kq := And.intro (cell_keeps hst hx1) (cell_keeps hst hx2); have HH1 := Aside0.mk (HH.out.next HH.out.below.size hst); have HR1 := Aside0.mk (HR3.out.sim (Sim.below hst)); have HF1 := Aside0.mk (free_block (hst.block _ (World.block_lt_of_cell? _ _ HX2.out)) HFR.out); have hv0 := cell_keeps hst HV0.out; have hv1 := cell_keeps hst HV1.out; have hv2 := cell_keeps hst HV2.out; have hfz := free_block (hst.block _ (World.block_lt_of_cell? _ _ HV0.out)) HF3.out; have hf0 := hfz (kk * 3); have hf1 := hfz (kk * 3 + 1); have hf2 := hfz (kk * 3 + 2); clear hst hb))
       go_wp2
       go_roundg (n3 - (kk + 1))
       case measure => omega
       case rel =>
        have hv := HH1.out.value 1 99 ⟨#[]⟩ HG3.out hv0 hv1 hv2
        exact ⟨kk + 1, by omega, by omega, by go_num, ⟨hv.1⟩, ⟨hv.2.2 _ _ _ _ kq.2⟩, ⟨HR1.out.sim hv.2.1⟩, ⟨free_set (free_set (free_set HF1.out _ _) _ _) _ _⟩⟩
      ·have hlkz : decide (kk < n3) = false := by simpa using hlk
       have hf2 := HFR.out (o2 + m)
       go_wp2
       go_roundg (nn - (m + 1))
       case measure => omega
       case rel => exact ⟨m + 1, by omega, by omega, by go_num, ⟨HH.out.set HG2.out HX2.out (.inr (.inr (.inr ⟨⟨_, _, _, rfl⟩, rfl⟩)))⟩⟩
    ·have hlmz : decide (m < nn) = false := by simpa using hlm
     go_wp2
     go_roundg (nr - (n + 1))
     case measure => omega
     case rel => exact ⟨n + 1, by omega, by omega, by go_num, HH⟩
  ·have hltz : decide (n < nr) = false := by simpa using hlt
   go_wp2_with (first
    | (go_at_call 19; refine (HE1.out _ _ _ _ _ (Kd.C_below HCA.out (by repeat (first | (with_reducible first | exact HH.out.below | apply yA | apply yN | apply yD) | exact HH.out.below))) HLA.out (Kd.C_below HCK.out (by repeat (first | (with_reducible first | exact HH.out.below | apply yA | apply yN | apply yD) | exact HH.out.below))) HLK.out).mono ?_; rintro e wx ⟨rfl, hb⟩; have HQ1 := Aside0.mk (below_step (by repeat (first | (with_reducible first | exact HH.out.below | apply yA | apply yN | apply yD) | exact HH.out.below)) hb); clear HE1 hb)
    | (go_at_call 19; refine (HE2.out _ _ _ _ _ (Kd.C_below HCB.out (by repeat (first | (with_reducible first | exact HQ1.out | apply yA | apply yN | apply yD) | exact HQ1.out))) HLB.out (Kd.C_below HCM.out (by repeat (first | (with_reducible first | exact HQ1.out | apply yA | apply yN | apply yD) | exact HQ1.out))) HLM.out).mono ?_; rintro e wy ⟨rfl, hb⟩; have HQ2 := Aside0.mk (below_step (by repeat (first | (with_reducible first | exact HQ1.out | apply yA | apply yN | apply yD) | exact HQ1.out)) hb); clear HE2 hb)
    | (go_at_call 18; refine (HE3.out _ (HLD.out.below (below_then HB0.out HB0.out.size (by repeat (first | (with_reducible first | exact HQ2.out | apply yA | apply yN | apply yD) | exact HQ2.out))))).mono ?_; rintro e wv ⟨rfl, hb⟩; have HQ3 := Aside0.mk (below_step (by repeat (first | (with_reducible first | exact HQ2.out | apply yA | apply yN | apply yD) | exact HQ2.out)) hb); clear HE3 hb))
   go_ret
   exact ⟨rfl, below_then HB0.out HB0.out.size (by repeat (first | exact HQ3.out | apply yA | apply yN | apply yD))⟩
end Go.Proofs.YtmhobbdedmjmnaaGreatDoor.Q
end
section
/- What the law RowsOwn computes answers as it says, in plain words: no program in sight. -/
namespace Go.Proofs.YtmhobbdedmjmnaaGreatDoor
open Go.RowKit Go.Proofs.YtmhobbdedmjmnaaGreatDoor.Q Go.Proofs.YtmhobbdedmjmnaaGreatDoorW.PrintWords Go.Proofs.YtmhobbdedmjmnaaGreatDoorW.PrintLast Go.Proofs.YtmhobbdedmjmnaaGreatDoorW.PrintMore
theorem bothG {a b : List (List V)} (ha : GoodR a) (hb : GoodR b) (all : Bool) : rows_Both.f a b all = some (rep (nBoth a b all) (oneR a), 0) := by
  have h1 : okRR a = true ∧ okRR b = true := ⟨okRR_of ha.ok (by omega) ha.wrong, okRR_of hb.ok (by omega) hb.wrong⟩
  have e1 : canR (takeIn (cnt b) (if all = true then a else oneR a)) = rep (nBoth a b all) (oneR a) := both_eq a b all
  unfold rows_Both.f
  rw [if_pos (ha.small2 hb), if_pos h1, e1]
theorem minusG {a b : List (List V)} (ha : GoodR a) (hb : GoodR b) (all : Bool) : rows_Minus.f a b all = some (rep (nMinus a b all) (oneR a), 0) := by
  have h1 : okRR a = true ∧ okRR b = true := ⟨okRR_of ha.ok (by omega) ha.wrong, okRR_of hb.ok (by omega) hb.wrong⟩
  have e1 : canR (takeOut all (cnt b) (if all = true then a else oneR a)) = rep (nMinus a b all) (oneR a) := minus_eq a b all
  unfold rows_Minus.f
  rw [if_pos (ha.small2 hb), if_pos h1, e1]
theorem canG {a : List (List V)} (ha : GoodR a) : rows_Canonical.f a = some (canR a, 0) := by
  unfold rows_Canonical.f
  rw [if_pos ha.small, if_pos (okR_of ha.ok (by omega))]
theorem oneG {a : List (List V)} (ha : GoodR a) : rows_Distinct.f a = some (oneR a, 0) := by
  unfold rows_Distinct.f
  rw [if_pos ha.small, if_pos (okR_of ha.ok (by omega))]
theorem pure_RowsOwn : ∀ (l0 : (List (List V))) (l1 : (List (List V))), argRows l0 → argRows l1 → ∃ k, Q.tacticianlaw02_RowsOwn.f k (l0) (l1) = some true := by
  intro l0 l1 h0 h1
  refine ⟨500000, ?_⟩
  obtain ⟨a, ea, la, ta⟩ := some_at l0 h0 12 (by omega) 500000 (by omega)
  obtain ⟨b, eb, lb, tb⟩ := some_at l1 h1 12 (by omega) 500000 (by omega)
  have ga : GoodR a := ⟨by omega, ta⟩
  have gb : GoodR b := ⟨by omega, tb⟩
  have ra := ga.ok.grow (show 100 ≤ 100000 by omega)
  have rb := gb.ok.grow (show 100 ≤ 100000 by omega)
  have hok : okR a = true := okR_of ga.ok (by omega)
  have hpl : ∀ c : Int, 0 ≤ c → c < 3 → placesB a [c] = true := fun c h2 h3 => by
    unfold placesB
    rw [Bool.not_eq_true', List.any_eq_false]
    intro x hx
    rw [Bool.not_eq_true, List.any_eq_false]
    intro z hz
    rw [List.mem_singleton.1 hz, Bool.not_eq_true, Bool.or_eq_false_iff, decide_eq_false_iff_not, decide_eq_false_iff_not]
    have := (ta x hx).1
    omega
  have hord : rows_Ordered.f a [(⟨1, false⟩ : KK)] = some (sortBy (cfK (keysOf [(⟨1, false⟩ : KK)])) a, 0) := by
    unfold rows_Ordered.f
    rw [if_pos ga.small, if_pos ⟨hok, by decide⟩]
    exact if_pos (hpl 1 (by omega) (by omega))
  unfold tacticianlaw02_RowsOwn.f
  rw [show (12 : Int) = ((12 : Nat) : Int) from rfl, ea, Option.bind_some, eb, Option.bind_some, refCopy a ra 500000 (by omega), Option.bind_some, refCopy b rb 500000 (by omega), Option.bind_some, canG ga, Option.bind_some, oneG ga, Option.bind_some, bothG ga gb true, Option.bind_some, minusG ga gb false, Option.bind_some, hord, Option.bind_some,
    refEqual2 a a ra ra 500000 (by omega), Option.bind_some, refEqual2 b b rb rb 500000 (by omega), Option.bind_some, show tacticianlaw02_awake.f = some true from rfl, Option.bind_some]
  exact if_pos ⟨rfl, rfl, rfl, rfl, rfl, ga.small, hok, hpl 0 (by omega) (by omega), decide_eq_true rfl, decide_eq_true rfl, rfl⟩
end Go.Proofs.YtmhobbdedmjmnaaGreatDoor
end
section
/- From data that are read (the form's 'trod') to what the printed contracts ask: numbers, bools, strings, slices, structs; with the reach's bounds. -/
namespace Go.Proofs.YtmhobbdedmjmnaaGreatDoor
open Go.RowKit Go.Proofs.YtmhobbdedmjmnaaGreatDoor.Q Go.Proofs.YtmhobbdedmjmnaaGreatDoorW.PrintWords Go.Proofs.YtmhobbdedmjmnaaGreatDoorW.PrintLast Go.Proofs.YtmhobbdedmjmnaaGreatDoorW.PrintMore
variable {α : Type}
/-- Data of type t that can be read are such a value; within the reach it is 'ok'. -/
def Opens (P : Program) (t : TypeId) (d : Kd α) (ok : α → Prop) : Prop :=
  ∀ (H : Type) (enc : TypeId × Value → H) (W : World) (base : Nat) (spare : Nat → Bool) (held : Bool) (fuel : Nat) (cs : List Value) (x : DataW H × List MemPlace),
    DataW.trod enc P W base spare held fuel t cs = some x → ∃ a, d.K W a cs ∧ (((DataW.weights P t x.1).all (· ≤ reachBytes)) = true → ok a)
theorem Opens.int {P : Program} {t : TypeId} {k : IntKind} (ht : P.underlying t = some (.int k)) : Opens P t (Kd.int k) (fun a => (Lit.int k a).wf = true) := by
  intro H enc W base spare held fuel cs x h
  obtain ⟨a, e0, rfl, wa⟩ := DataW.trod_int ht h
  exact ⟨a, e0, fun _ => wa⟩
theorem Opens.bool {P : Program} {t : TypeId} (ht : P.underlying t = some .bool) : Opens P t Kd.bool (fun _ => True) := by
  intro H enc W base spare held fuel cs x h
  obtain ⟨a, e0, rfl⟩ := DataW.trod_bool ht h
  exact ⟨a, e0, fun _ => trivial⟩
theorem Opens.string {P : Program} {t : TypeId} (ht : P.underlying t = some .string) : Opens P t Kd.string (fun a => a.size ≤ 140737488351232) := by
  intro H enc W base spare held fuel cs x h
  obtain ⟨a, e0, rfl, ws⟩ := DataW.trod_string ht h
  refine ⟨a, e0, fun hw => ?_⟩
  simp only [DataW.weights, List.all_cons, List.all_nil, Bool.and_true, decide_eq_true_eq] at hw
  have e : a.data.toList.length = a.size := Array.length_toList
  unfold reachBytes at hw
  omega
theorem mem_weightsAll {H : Type} (P : Program) (e : TypeId) : ∀ (l : List (DataW H)) (d : DataW H), d ∈ l → ∀ n, n ∈ d.weights P e → n ∈ DataW.weightsAll P e l := by
  intro l
  induction l with
  | nil => intro d hd; cases hd
  | cons z r ih =>
    intro d hd n hn
    rw [DataW.weightsAll, List.mem_append]
    rcases List.mem_cons.1 hd with rfl | hd
    · exact .inl hn
    · exact .inr (ih d hd n hn)
/-- choice along a list's places -/
theorem choose_list {β : Type} (n : Nat) (p : Nat → β → Prop) (h : ∀ i, i < n → ∃ b, p i b) : ∃ l : List β, l.length = n ∧ ∀ i b, l[i]? = some b → p i b := by
  induction n with
  | zero => exact ⟨[], rfl, fun i b hb => by simp at hb⟩
  | succ n ih =>
    obtain ⟨l, hl, hp⟩ := ih (fun i hi => h i (by omega))
    obtain ⟨b, hb⟩ := h n (by omega)
    refine ⟨l ++ [b], by simp [hl], fun i b' hb' => ?_⟩
    by_cases hi : i < l.length
    · rw [List.getElem?_append_left hi] at hb'; exact hp i b' hb'
    · rw [List.getElem?_append_right (by omega)] at hb'
      have hi2 : i = n := by
        rcases Nat.lt_or_ge (i - l.length) 1 with h1 | h1
        · omega
        · rw [List.getElem?_eq_none (by simpa using h1)] at hb'; cases hb'
      subst hi2
      rw [show i - l.length = 0 by omega] at hb'
      simp at hb'
      rw [← hb']; exact hb
theorem Opens.slice {P : Program} {t e : TypeId} {d : Kd α} {ok : α → Prop} {n : Nat} (ht : P.underlying t = some (.slice e)) (hc : P.cellsOf e = d.sz) (hb : P.bytesOf e = n) (hd : Opens P e d ok) :
    Opens P t (Kd.slice e d) (fun l => l.length * n ≤ 140737488351232 ∧ l.length ≤ maxLen ∧ ∀ a ∈ l, ok a) := by
  intro H enc W base spare held fuel cs x h
  rcases Go.Deep.open_slice ht h with ⟨rfl, rfl⟩ | ⟨a, len, cap, m, n', D, Pl, rfl, _, hl, hm, hmm, rfl, hx⟩
  · exact ⟨[], ⟨none, 0, rfl, Nat.le_refl _, rfl, by simp, fun h => absurd h (Nat.lt_irrefl _)⟩, fun _ => ⟨by simp, by simp, fun a ha => by cases ha⟩⟩
  · have hlm : len ≤ m := by rw [hmm]; split <;> omega
    obtain ⟨l, hll, hp⟩ := choose_list len (fun i z => ∃ cs', W.cells? base (a.add (i * P.cellsOf e)) (P.cellsOf e) = some cs' ∧ d.K W z cs' ∧ (((DataW.weights P e (D i)).all (· ≤ reachBytes)) = true → ok z)) (fun i hi => by
      obtain ⟨cs', h1, h2⟩ := hx i (by omega)
      obtain ⟨z, hz, hok⟩ := hd H enc W base spare held n' cs' _ h2
      exact ⟨z, cs', h1, hz, hok⟩)
    subst hll
    unfold maxLen at hm
    refine ⟨l, ⟨some a, cap, rfl, hl, rfl, by omega, fun _ => ⟨a, rfl, fun j p hj => ?_⟩⟩, fun hw => ?_⟩
    · obtain ⟨cs', h1, h2, _⟩ := hp j p hj
      rw [hc] at h1
      obtain ⟨_, hlen, hcell⟩ := World.cells?_some h1
      refine ⟨cs', hlen, h2, fun i u hu => ?_⟩
      have hi : i < d.sz := by rw [← hlen]; exact (List.getElem?_eq_some_iff.1 hu).1
      have := (hcell i hi).trans hu
      rw [Addr.add_add] at this
      exact this
    · rw [DataW.weights, ht] at hw
      simp only [List.all_cons, List.all_append, Bool.and_eq_true, decide_eq_true_eq] at hw
      obtain ⟨h1, h2, _⟩ := hw
      rw [hb] at h1
      refine ⟨?_, by unfold maxLen; omega, fun z hz => ?_⟩
      · have h3 : l.length * n ≤ (((List.range l.length).map D).length + ((List.range (m - l.length)).map fun j => D (l.length + j)).length) * n := Nat.mul_le_mul_right _ (by simp)
        unfold reachBytes at h1
        omega
      · obtain ⟨i, hi, rfl⟩ := List.getElem_of_mem hz
        obtain ⟨_, _, _, hok⟩ := hp i _ (List.getElem?_eq_getElem hi)
        refine hok ?_
        rw [List.all_eq_true] at h2 ⊢
        intro q hq
        exact h2 q (mem_weightsAll P e _ (D i) (List.mem_map.2 ⟨i, List.mem_range.2 hi, rfl⟩) q hq)
set_option maxRecDepth 100000 in
/-- a value: three cells -/
theorem Opens.value : Opens Tryz.prog 61 k61 (fun v => (Lit.int .i64 v.f0).wf = true ∧ (Lit.int .i64 v.f1).wf = true ∧ v.f2.size ≤ 140737488351232) := by
  intro H enc W base spare held fuel cs x h
  obtain ⟨y0, y1, y2, n, rfl, hl, h0, h1, h2⟩ := Go.Deep.trod_struct3 Tryz.underlying61 h
  have hc : Tryz.prog.cellsOf 61 = 3 := by kernel_rfl
  have c0 : Tryz.prog.cellsOf 59 = 1 := by kernel_rfl
  have c1 : Tryz.prog.cellsOf 2 = 1 := by kernel_rfl
  have c2 : Tryz.prog.cellsOf 9 = 1 := by kernel_rfl
  rw [hc] at hl
  simp only [c0, c1, c2] at h0 h1 h2
  obtain ⟨a, e0, o0⟩ := Opens.int Tryz.underlying59 H enc W base spare held _ _ _ h0
  obtain ⟨b, e1, o1⟩ := Opens.int Tryz.underlying2 H enc W base spare held _ _ _ h1
  obtain ⟨c, e2, o2⟩ := Opens.string Tryz.underlying9 H enc W base spare held _ _ _ h2
  match cs, hl with
  | [z0, z1, z2], _ =>
    have q0 : [z0] = [Value.int .i64 a] := e0
    have q1 : [z1] = [Value.int .i64 b] := e1
    have q2 : [z2] = [Value.string c] := e2
    simp only [List.cons.injEq, and_true] at q0 q1 q2
    subst q0 q1 q2
    refine ⟨⟨a, b, c⟩, k61_mk W ⟨a, b, c⟩, fun hw => ?_⟩
    rw [DataW.weights, Tryz.underlying61] at hw
    simp only [List.map_cons, List.map_nil, DataW.weightsEach, List.all_append, List.append_nil, Bool.and_eq_true] at hw
    exact ⟨o0 hw.1, o1 hw.2.1, o2 hw.2.2⟩
end Go.Proofs.YtmhobbdedmjmnaaGreatDoor
end
section
/- From data that are read to what the printed contracts ask: keys and columns (two cells each). -/
namespace Go.Proofs.YtmhobbdedmjmnaaGreatDoor
open Go.RowKit Go.Proofs.YtmhobbdedmjmnaaGreatDoor.Q Go.Proofs.YtmhobbdedmjmnaaGreatDoorW.PrintWords Go.Proofs.YtmhobbdedmjmnaaGreatDoorW.PrintLast Go.Proofs.YtmhobbdedmjmnaaGreatDoorW.PrintMore
set_option maxRecDepth 100000 in
/-- a key: two cells -/
theorem Opens.key : Opens Tryz.prog 36 k36 (fun v => (Lit.int .i64 v.f0).wf = true) := by
  intro H enc W base spare held fuel cs x h
  obtain ⟨y0, y1, n, rfl, hl, h0, h1⟩ := Go.ChangeShapes.trod_struct2 Tryz.underlying36 h
  have hc : Tryz.prog.cellsOf 36 = 2 := by kernel_rfl
  have c0 : Tryz.prog.cellsOf 3 = 1 := by kernel_rfl
  have c1 : Tryz.prog.cellsOf 4 = 1 := by kernel_rfl
  rw [hc] at hl
  simp only [c0, c1] at h0 h1
  obtain ⟨a, e0, o0⟩ := Opens.int Tryz.underlying3 H enc W base spare held _ _ _ h0
  obtain ⟨b, e1, o1⟩ := Opens.bool Tryz.underlying4 H enc W base spare held _ _ _ h1
  match cs, hl with
  | [z0, z1], _ =>
    have q0 : [z0] = [Value.int .i64 a] := e0
    have q1 : [z1] = [Value.bool b] := e1
    simp only [List.cons.injEq, and_true] at q0 q1
    subst q0 q1
    refine ⟨⟨a, b⟩, k36_mk W ⟨a, b⟩, fun hw => ?_⟩
    rw [DataW.weights, Tryz.underlying36] at hw
    simp only [List.map_cons, List.map_nil, DataW.weightsEach, List.all_append, List.append_nil, Bool.and_eq_true] at hw
    exact o0 hw.1
set_option maxRecDepth 100000 in
/-- a column: two cells -/
theorem Opens.col : Opens Tryz.prog 88 k88 (fun v => (Lit.int .i64 v.f0).wf = true) := by
  intro H enc W base spare held fuel cs x h
  obtain ⟨y0, y1, n, rfl, hl, h0, h1⟩ := Go.ChangeShapes.trod_struct2 Tryz.underlying88 h
  have hc : Tryz.prog.cellsOf 88 = 2 := by kernel_rfl
  have c0 : Tryz.prog.cellsOf 59 = 1 := by kernel_rfl
  have c1 : Tryz.prog.cellsOf 4 = 1 := by kernel_rfl
  rw [hc] at hl
  simp only [c0, c1] at h0 h1
  obtain ⟨a, e0, o0⟩ := Opens.int Tryz.underlying59 H enc W base spare held _ _ _ h0
  obtain ⟨b, e1, o1⟩ := Opens.bool Tryz.underlying4 H enc W base spare held _ _ _ h1
  match cs, hl with
  | [z0, z1], _ =>
    have q0 : [z0] = [Value.int .i64 a] := e0
    have q1 : [z1] = [Value.bool b] := e1
    simp only [List.cons.injEq, and_true] at q0 q1
    subst q0 q1
    refine ⟨⟨a, b⟩, k88_mk W ⟨a, b⟩, fun hw => ?_⟩
    rw [DataW.weights, Tryz.underlying88] at hw
    simp only [List.map_cons, List.map_nil, DataW.weightsEach, List.all_append, List.append_nil, Bool.and_eq_true] at hw
    exact o0 hw.1
end Go.Proofs.YtmhobbdedmjmnaaGreatDoor
end
section
/- Proved: what the rows of this seat share (the witness's world, the listed variables, the wrap), under the conditions of the given statements alone (written by a program of ours for this seat). -/
namespace Go.Proofs.YtmhobbdedmjmnaaGreatDoor
open Go.RowKit
variable {H : Type} {enc : TypeId × Value → H}
/-- The plain wrap, with the listed variables and the world's shape kept. -/
theorem returnsInHanded_both {a : Assume} {C : Checked} {os : Os} {f : FuncId} {fn : Func} {s : ChangeSpec} {conds : List PathCond} {apart fresh handsOn again : Bool} {X : World → Array Value → Prop}
    (hX : ∀ (w w' : World) (args : Array Value), w.heap = w'.heap → X w args → X w' args)
    (own : ownKnob C.prog.godebug = none) (started : os.Started) (noInit : C.prog.inits.idxOf? f = none) (hfn : C.prog.funcs[f]? = some fn)
    (witness : ∃ (w : World) (tape : Tape) (i : Input), w.os = os ∧ (w.forCall tape i).Shaped C.prog ∧ i.vars = [] ∧ Input.okWide C.prog (w.forCall tape i) .any w.heap.size f i ∧
      ((s.pre enc C.prog fn conds apart (w.forCall tape i).memory i.args ∧ X (w.forCall tape i).memory i.args) ∧ sizedMet enc C.prog fn (OpenSpec.ofChange s) apart (w.forCall tape i).memory i.args) ∧ a.holds C.prog (lone (Frame.enter C.prog f i.args .normal) [] (w.forCall tape i)))
    (contract : ∀ (W : World) (base : Nat) (args : Array Value) (ds gs : List (DataW H)) (before : List MemPlace),
      (∀ (j : Nat) t v, fn.params[j]? = some t → args[j]? = some v → Value.okWide C.prog W .any base t v) →
      DataW.Whole enc C.prog fn.params.toList s.vars apart W args.toList ds gs before →
      conds.all (PathCond.test C.prog ⟨fn.params.toList, ds, s.plain.varTypes C.prog, gs⟩) = true →
      (DataW.weightsEach C.prog (fn.params.toList ++ s.plain.varTypes C.prog) (ds ++ gs)).all (· ≤ reachBytes) = true → X W args → W.ShapedOpen C.prog →
      a.holds C.prog (lone (Frame.enter C.prog f args .normal) [] W) →
      Calls C.prog f args W fun e W' => ∃ v, e = .returned v ∧ s.post enc C.prog fn apart fresh handsOn again W args v W') :
    ReturnsInHanded a C os f .any (fun w args => (s.pre enc C.prog fn conds apart w args ∧ X w args) ∧ sizedMet enc C.prog fn (OpenSpec.ofChange s) apart w args) (s.post enc C.prog fn apart fresh handsOn again) := by
  refine returnsInHanded_of_calls own started noInit witness ?_
  intro w tape i _ hsh _ hok hpre hholds
  obtain ⟨_, _, _, fn', hfn', _, _, _, _, hval⟩ := hok
  have e : fn' = fn := Option.some.inj (hfn'.symm.trans hfn)
  subst e
  obtain ⟨⟨⟨ds, gs, before, hw, hc⟩, hx⟩, hz⟩ := hpre
  have hw' := DataW.Whole.of_heap (w' := w.forCall tape i) (by rfl) hw
  refine (contract (w.forCall tape i) w.heap.size i.args ds gs before hval hw' hc (hz.weights hw) (hX _ _ _ (by rfl) hx) hsh hholds).mono fun e W' ⟨v, he, hp⟩ => ?_
  subst he
  exact ChangeSpec.post_blind hp
theorem own : ownKnob Tryz.prog.godebug = none := by kernel_rfl
theorem laidOut : laidOutB Tryz.prog = true := by kernel_rfl
/-- the world that the program's own start leaves, the pinned table laid -/
noncomputable def laidWorld (os : Os) : World :=
  let w0 := World.doorLaid Tryz.prog 600 os
  { w0 with heap := w0.heap.modify 2 fun
      | .cells _ t frozen => .cells (Lib.firstTab.map fun z => Value.int .u8 z).toArray t frozen
      | o => o }
theorem laid_plain {W : World} (h : laidMetH Tryz.prog Rows.rowsOwnRow.laid W) : laidMet Tryz.prog Rows.rowsOwnRow.laid W := by
  have e : (Rows.rowsOwnRow.laid.filter fun x => x.2.handleName?.isSome) = [] := by kernel_rfl
  unfold laidMetH at h
  rw [e] at h
  exact h
theorem laid_met (os : Os) (args : Array Value) : laidMetH Tryz.prog Rows.rowsOwnRow.laid ((laidWorld os).forCall (fun _ _ => 0) ⟨#[], args, []⟩).memory := by
  have e : (Rows.rowsOwnRow.laid.filter fun x => x.2.handleName?.isSome) = [] := by kernel_rfl
  unfold laidMetH
  rw [e]
  exact laidMet_of_run' 8 (by kernel_rfl) (by kernel_rfl)
theorem laid_of {W : World} (h0 : laidMetH Tryz.prog Rows.rowsOwnRow.laid W) (hsh : W.ShapedOpen Tryz.prog) : Laid W := by
  have h := laid_plain h0
  have hp : Lib.TabIs Tryz.prog W "internal/strconv.uint64pow10" .u64 Lib.pow10Tab := by
    have z := h.tail.tail
    have e : Rows.laid_internal_strconv_uint64pow10 (H := Unit) = Lib.tabData .u64 Lib.pow10Tab := by kernel_rfl
    rw [e] at z
    exact Lib.tabIs_of_head (g := 0) (t := 198) (e := 153) (n := 20) (by kernel_rfl) (by kernel_rfl) (by kernel_rfl) (by kernel_rfl) (by kernel_rfl) (by kernel_rfl) z
  obtain ⟨m, hm⟩ := cell_of_shapedOpen_int (g := 1) (t := 3) (k := .i64) (zero := #[.int .i64 0]) hsh (of_decide_eq_true (by kernel_rfl)) (by kernel_rfl) rfl (by kernel_rfl) (by kernel_rfl) (by kernel_rfl)
  exact ⟨hp, ⟨m, hm⟩⟩
end Go.Proofs.YtmhobbdedmjmnaaGreatDoor
end
section
/- Proved: the card of the statement RowsOwn, under the conditions of the given statements alone (written by a program of ours for this seat). -/
namespace Go.Proofs.YtmhobbdedmjmnaaGreatDoor.rowsOwn
open Go.ChangeShapes Go.WideShapes Go.ChangeAt Go.RowKit
open Go.ChangeMaps (open_string shut_string)
open Go.Proofs.YtmhobbdedmjmnaaGreatDoor.Q Go.Proofs.YtmhobbdedmjmnaaGreatDoorW.PrintWords
set_option linter.unusedVariables false
set_option maxRecDepth 100000 in
set_option maxHeartbeats 1000000 in
theorem lifted (os : Os) (started : os.Started) (H : Type) (enc : TypeId × Value → H) :
    ReturnsInHanded {} Tryz.checked os 8 .any (fun w args => (Rows.rowsOwnSpec.pre enc Tryz.prog Tryz.f8 [] false w args ∧ laidMetH Tryz.prog Rows.rowsOwnRow.laid w) ∧ sizedMet enc Tryz.prog Tryz.f8 (OpenSpec.ofChange Rows.rowsOwnSpec) false w args) (Rows.rowsOwnSpec.post enc Tryz.prog Tryz.f8 false true false false) := by
  refine returnsInHanded_both (C := Tryz.checked) (X := fun w _ => laidMetH Tryz.prog Rows.rowsOwnRow.laid w) (fun _ _ _ hh h => h.of_heap hh) own started (by kernel_rfl) Tryz.func8
    (ChangeSpec.witness_shaped (enc := enc) (C := Tryz.checked) (os := os) (X := fun w _ => laidMetH Tryz.prog Rows.rowsOwnRow.laid w) false (laidWorld os) #[.slice none 0 0, .slice none 0 0] 8 rfl (World.shaped_of_RefB (by kernel_rfl) (by kernel_rfl)) (by kernel_rfl) (by kernel_rfl) (by kernel_rfl) (laid_met os _)) ?_
  intro W base args ds gs before hval0 hW _ hsz0 hL hsh _
  have hsz : (DataW.weightsEach Tryz.prog (Tryz.f8.params.toList ++ Rows.rowsOwnSpec.plain.varTypes Tryz.prog) (ds ++ gs)).all (· ≤ reachBytes) = true := hsz0
  have hW' := hW
  obtain ⟨p, q, hA0, hV, rfl, hfz, hnd⟩ := hW
  have hA : DataW.TrodAll enc Tryz.prog W 0 (fun _ => true) true Tryz.f8.params.toList args.toList ds p := hA0
  rw [Tryz.params8] at hA hsz
  obtain ⟨v0, vs0, d0, ds0, p0, q0, hargs, rfl, rfl, h0, r0⟩ := trodAll_cons hA
  obtain ⟨v1, vs1, d1, ds1, p1, q1, rfl, rfl, rfl, h1, r1⟩ := trodAll_cons r0
  obtain ⟨rfl, rfl, rfl⟩ := trodAll_nil r1
  obtain rfl : args = #[v0, v1] := by cases args; simp_all
  obtain ⟨rfl, rfl⟩ := trodVars_none hV
  have hval : ∀ (j : Nat) t v, Tryz.f8.params[j]? = some t → (#[v0, v1] : Array Value)[j]? = some v → Value.okWide Tryz.prog W .any base t v := hval0
  rw [Tryz.params8] at hval
  have k0 := h0
  have lt0 : ∀ x ∈ p0, x.block < W.heap.size := by obtain ⟨m, hm⟩ := k0; exact DataW.trod_lt m _ _ _ hm
  obtain ⟨aa0, len0, cap0, rfl⟩ := okWide_slice Tryz.underlying22 (hval 0 22 v0 rfl rfl)
  obtain ⟨fuel0, hf0⟩ := h0
  obtain ⟨l0, ⟨A0, c0, ev0, hc0, hr0⟩, o0⟩ := (Opens.slice Tryz.underlying22 (by kernel_rfl) (n := 24) (by kernel_rfl) (Opens.slice Tryz.underlying40 (by kernel_rfl) (n := 32) (by kernel_rfl) Opens.value)) H enc W 0 _ _ fuel0 _ _ hf0
  obtain ⟨rfl, rfl, rfl⟩ : aa0 = A0 ∧ len0 = l0.length ∧ cap0 = c0 := by simpa [Value.cells] using ev0
  have y0 := o0 (List.all_eq_true.2 fun z hz => (List.all_eq_true.1 hsz) z (DataW.weights_mem_each (j := 0) (t := 22) rfl rfl z hz))
  have k1 := h1
  have lt1 : ∀ x ∈ p1, x.block < W.heap.size := by obtain ⟨m, hm⟩ := k1; exact DataW.trod_lt m _ _ _ hm
  obtain ⟨aa1, len1, cap1, rfl⟩ := okWide_slice Tryz.underlying22 (hval 1 22 v1 rfl rfl)
  obtain ⟨fuel1, hf1⟩ := h1
  obtain ⟨l1, ⟨A1, c1, ev1, hc1, hr1⟩, o1⟩ := (Opens.slice Tryz.underlying22 (by kernel_rfl) (n := 24) (by kernel_rfl) (Opens.slice Tryz.underlying40 (by kernel_rfl) (n := 32) (by kernel_rfl) Opens.value)) H enc W 0 _ _ fuel1 _ _ hf1
  obtain ⟨rfl, rfl, rfl⟩ : aa1 = A1 ∧ len1 = l1.length ∧ cap1 = c1 := by simpa [Value.cells] using ev1
  have y1 := o1 (List.all_eq_true.2 fun z hz => (List.all_eq_true.1 hsz) z (DataW.weights_mem_each (j := 1) (t := 22) rfl rfl z hz))
  obtain ⟨k, hk⟩ := pure_RowsOwn l0 l1 y0 y1
  refine (Q.tacticianlaw02_RowsOwn.calls k _ _ l0 _ _ l1 true W hr0 hc0 hr1 hc1 (laid_of hL hsh) ⟨rfl⟩ hk).mono fun e W' ⟨he, bel⟩ => ?_
  subst he
  exact ⟨_, rfl, _, _, _, [], _, [], hW', trodAll_mk1 (shut_bool Tryz.underlying4 _), (trodAll_cons_mk (Below.trod laidOut (by kernel_rfl) (of_decide_eq_true (by kernel_rfl)) k0 bel lt0) (trodAll_cons_mk (Below.trod laidOut (by kernel_rfl) (of_decide_eq_true (by kernel_rfl)) k1 bel lt1) trodAll_mk0)), rfl, bel.frame _, fun h => by cases h⟩
theorem over : Rows.rowsOwnRow.holds Tryz.pinned (OpenSpec.ofChange Rows.rowsOwnSpec) :=
  OpenClaim.holds_of_wide 8 Tryz.f8 rfl rfl rfl rfl rfl rfl rfl ⟨rfl, rfl, rfl, rfl, rfl⟩ rfl rfl rfl rfl rfl (by kernel_rfl) Tryz.func8 (by kernel_rfl)
    (of_decide_eq_true (by kernel_rfl)) (by unfold Func.isWrapper; first | (rw [if_pos (by decide +kernel)]; kernel_rfl) | (rw [if_neg (by decide +kernel)]; exact ⟨rfl, rfl⟩))
    (fun os started H enc _ => lifted os started H enc)
theorem card : Rows.RowsOwnCardSaid :=
  Claim7.holds_tied_plain_at .later [] [.data, .data, .data, .data, .pinned] true (true, "3fbdbdc6005f940d9b2637db3a20e2190d23d3aac91fe9574c23040e4f9c7ab4") true
    over (fun _ h => by cases h) (by kernel_rfl) (fun _ h => by cases h) rowsOwn_row_tie rfl ⟨rfl, rfl⟩ (by kernel_rfl) rfl
    (fun f fn hf hfn => by
      obtain rfl : f = 8 := Option.some.inj ((show Tryz.prog.funcNamed "tactician/tacticianlaw02.RowsOwn" = some 8 by kernel_rfl).symm.trans hf) |>.symm
      obtain rfl : fn = Tryz.f8 := (Option.some.inj (Tryz.func8.symm.trans hfn)).symm
      refine ⟨by kernel_rfl, fun j t ht => ?_⟩
      rw [Tryz.params8] at ht
      have hm := Array.mem_of_getElem? ht
      simp only [List.mem_toArray, List.mem_cons, List.mem_nil_iff, or_false] at hm
      rcases hm with rfl | rfl
      · exact (show Tryz.prog.wantsStandIn 22 = false by kernel_rfl)
      · exact (show Tryz.prog.wantsStandIn 22 = false by kernel_rfl))
    (by kernel_rfl)
end Go.Proofs.YtmhobbdedmjmnaaGreatDoor.rowsOwn
namespace Go.Proofs.YtmhobbdedmjmnaaGreatDoor
/-- The card, under a short name, for the claim. -/
theorem rowsOwn_card : Rows.RowsOwnCardSaid := rowsOwn.card
end Go.Proofs.YtmhobbdedmjmnaaGreatDoor
end
