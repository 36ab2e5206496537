/- What the listed library variables hold, as one fact on a world ('Laid'), and that it stays. -/
import Derived.Test.YtinhpbmoiamepaaGreatDoorShelf
import Derived.WalkKit
import Derived.WalkSmall
import Derived.FnData
import Derived.Lib.AppendIntMem
import Derived.Lib.AtoiErrMem
import Derived.WalkLawsBesides
namespace Go.Proofs.YtinhpbmoiamepaaGreatDoor
open Go.RowKit

theorem var_below {n : String} {g : Nat} {cs : Array Value} {w w' : World} (hg : Tryz.prog.globalNamed n = some g) (h : w.var? Tryz.prog n = some cs) (hb : Below w.heap.size w w') : w'.var? Tryz.prog n = some cs := by
  unfold World.var? at h ⊢
  rw [hg] at h ⊢
  simp only [Option.bind_some] at h ⊢
  have hlt : g < w.heap.size := by
    rcases Nat.lt_or_ge g w.heap.size with h' | h'
    · exact h'
    · rw [Array.getElem?_eq_none h'] at h; cases h
  rw [hb.block g hlt]
  exact h

theorem cell_keeps {w w' : World} (hb : Below w.heap.size w w') {a : Addr} {v : Value} (hc : w.cell? a = some v) : w'.cell? a = some v :=
  (hb.cell (World.block_lt_of_cell? w a hc)).trans hc

structure Laid (w : World) : Prop where
  pow : Lib.TabIs Tryz.prog w "internal/strconv.uint64pow10" .u64 Lib.pow10Tab
  most : ∃ m, w.cell? ⟨3, 0, none⟩ = some (.int .i64 m)
  synt : ∃ tp p, w.var? Tryz.prog "strconv.ErrSyntax" = some #[.iface tp p]
  rang : ∃ tp p, w.var? Tryz.prog "strconv.ErrRange" = some #[.iface tp p]

theorem Laid.below {w w' : World} (h : Laid w) (hb : Below w.heap.size w w') : Laid w' := by
  obtain ⟨h1, ⟨m, h2⟩, ⟨t3, p3, h3⟩, ⟨t4, p4, h4⟩⟩ := h
  exact ⟨var_below (g := 0) (by kernel_rfl) h1 hb, ⟨m, cell_keeps hb h2⟩, ⟨t3, p3, var_below (g := 1) (by kernel_rfl) h3 hb⟩, ⟨t4, p4, var_below (g := 2) (by kernel_rfl) h4 hb⟩⟩

/-- A store makes and takes away no cell. -/
theorem isSome_setCell (w : World) (a b : Addr) (v : Value) : ((w.setCell a v).cell? b).isSome = (w.cell? b).isSome := by
  by_cases h : a = b
  · subst h
    unfold World.cell? World.setCell
    simp only [Array.getElem?_modify, if_true]
    cases hb : w.heap[a.block]? with
    | none => rfl
    | some o =>
      cases o
      case cells c e f =>
        simp only [Option.map_some]
        by_cases hs : a.spot.isSome = true
        · simp [hs]
        · simp only [hs, if_false, Bool.false_eq_true]
          simp only [Array.getElem?_setIfInBounds, if_true]
          by_cases hz : a.off < c.size <;> simp [hz]
      all_goals rfl
  · rw [World.cell?_setCell_other _ _ _ _ h]
attribute [go_sem] isSome_setCell

/-- an int64, as a test -/
def inI64 (n : Int) : Bool := decide (-9223372036854775808 ≤ n) && decide (n ≤ 9223372036854775807)
theorem inI64_bd {n : Int} (h : inI64 n = true) : -9223372036854775808 ≤ n ∧ n ≤ 9223372036854775807 := by
  simp only [inI64, Bool.and_eq_true, decide_eq_true_eq] at h; exact h
theorem inI64_mk {n : Int} (h0 : -9223372036854775808 ≤ n) (h1 : n ≤ 9223372036854775807) : inI64 n = true := by
  simp only [inI64, Bool.and_eq_true, decide_eq_true_eq]; exact ⟨h0, h1⟩
/-- an error that is no error over int: what is told of it is whether it is nil -/
def errR : Option Int → Value → Prop
  | none, v => v = .nilIface
  | some _, v => ∃ T x, v = .iface T x
theorem errR_none {v : Value} (h : errR none v) : v = .nilIface := h
theorem errR_some {c : Int} {v : Value} (h : errR (some c) v) : ∃ T x, v = .iface T x := h
/-- the string of a list of bytes -/
def ofL (l : List UInt8) : ByteArray := ⟨l.toArray⟩
end Go.Proofs.YtinhpbmoiamepaaGreatDoor
