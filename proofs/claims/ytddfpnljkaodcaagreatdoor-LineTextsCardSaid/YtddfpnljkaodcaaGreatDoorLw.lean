/-
  Layer 31 (line): what the listed variables lay, as the walks ask it; the wrap of a row with listed variables and the world's shape.
-/
import Derived.Test.YtddfpnljkaodcaaGreatDoorLu
import Derived.Test.YtddfpnljkaodcaaGreatDoorRows
import Derived.Lib.LaidU8
import Derived.ProofKit
import Derived.OpenShut
import Derived.LaidMore
import Derived.Lay
import Derived.Stop.Joined
import Derived.Deep.DeepHandedRow
namespace Go.Proofs.YtddfpnljkaodcaaGreatDoor
open Go.ChangeShapes Go.WideShapes Go.ChangeAt Go.RowKit

theorem own : ownKnob Tryz.prog.godebug = none := by kernel_rfl

theorem g0 : Tryz.prog.globalNamed "cordelle/line.ways" = some 0 := by kernel_rfl
theorem g2 : Tryz.prog.globalNamed "internal/strconv.uint64pow10" = some 1 := by kernel_rfl
theorem g3 : Tryz.prog.globalNamed "unicode/utf8.first" = some 3 := by kernel_rfl
theorem g4 : Tryz.prog.globalNamed "unicode/utf8.acceptRanges" = some 4 := by kernel_rfl
theorem gt0 : (Tryz.prog.globals[0]?).map (·.type) = some 47 := by kernel_rfl
theorem gt2 : (Tryz.prog.globals[1]?).map (·.type) = some 116 := by kernel_rfl
theorem gt3 : (Tryz.prog.globals[3]?).map (·.type) = some 129 := by kernel_rfl
theorem gt4 : (Tryz.prog.globals[4]?).map (·.type) = some 132 := by kernel_rfl
theorem c5 : Tryz.prog.cellsOf 5 = 1 := by kernel_rfl
theorem c9 : Tryz.prog.cellsOf 9 = 1 := by kernel_rfl
theorem c54 : Tryz.prog.cellsOf 47 = 2 := by kernel_rfl
theorem c102 : Tryz.prog.cellsOf 116 = 20 := by kernel_rfl
theorem c107 : Tryz.prog.cellsOf 129 = 256 := by kernel_rfl
theorem c109 : Tryz.prog.cellsOf 131 = 2 := by kernel_rfl

theorem first_data : Rows.laid_unicode_utf8_first = Lib.firstData := by kernel_rfl
theorem accept_data : (Rows.laid_unicode_utf8_acceptRanges : DataW Unit) = Lib.acceptData := by kernel_rfl
theorem pow_data : (Rows.laid_internal_strconv_uint64pow10 : DataW Unit) = Lib.tabData .u64 Lib.pow10Tab := by kernel_rfl

theorem utf_of {w : World} (h3 : Lib.VarReads Tryz.prog w "unicode/utf8.first" Lib.firstData) (h4 : Lib.VarReads Tryz.prog w "unicode/utf8.acceptRanges" Lib.acceptData) : Lib.Utf8Tabs 3 4 w := by
  refine ⟨fun c hc => ?_, fun i hi => ?_⟩
  · obtain ⟨g, t, cs, fuel, p, hg, hty, hvar, hd⟩ := h3
    obtain rfl := Option.some.inj (g3.symm.trans hg)
    obtain rfl := Option.some.inj (gt3.symm.trans hty)
    have hcs := Lib.cells_of_tab Tryz.underlying129 Tryz.underlying5 c5 c107 hd
    have := World.var?_cell hg hvar c
    rw [this, ← Array.getElem?_toList, hcs]
    simp [Lib.firstTab, hc]
  · obtain ⟨g, t, cs, fuel, p, hg, hty, hvar, hd⟩ := h4
    obtain rfl := Option.some.inj (g4.symm.trans hg)
    obtain rfl := Option.some.inj (gt4.symm.trans hty)
    obtain ⟨fuel', d, q, hdi, he⟩ := Lib.array_elem Tryz.underlying132 hd i hi
    simp only [List.getElem?_map, List.getElem?_range hi, Option.map_some, Option.some.injEq] at hdi
    subst hdi
    rw [c109] at he
    have hcs := Lib.ints_of_struct Tryz.underlying131 (fun j f hj => by
      match j, hj with
      | 0, hj => simp at hj; subst hj; exact ⟨Tryz.underlying5, rfl, c5⟩
      | 1, hj => simp at hj; subst hj; exact ⟨Tryz.underlying5, rfl, c5⟩
      | j + 2, hj => simp at hj) (by rw [c109]; rfl) he
    have e0 := congrArg (·[0]?) hcs
    have e1 := congrArg (·[1]?) hcs
    simp only [List.getElem?_take, List.getElem?_drop] at e0 e1
    constructor
    · rw [World.var?_cell hg hvar (2 * i), ← Array.getElem?_toList]
      simpa [Nat.mul_comm] using e0
    · rw [World.var?_cell hg hvar (2 * i + 1), ← Array.getElem?_toList]
      simpa [Nat.mul_comm] using e1

set_option maxRecDepth 100000 in
theorem pow_of {w : World} (h : Lib.VarReads Tryz.prog w "internal/strconv.uint64pow10" (Lib.tabData .u64 Lib.pow10Tab)) : Lib.TabIs Tryz.prog w "internal/strconv.uint64pow10" .u64 Lib.pow10Tab := by
  obtain ⟨g, t, cs, fuel, p, hg, hty, hvar, hd⟩ := h
  obtain rfl := Option.some.inj (g2.symm.trans hg)
  obtain rfl := Option.some.inj (gt2.symm.trans hty)
  have c87 : Tryz.prog.cellsOf 96 = 1 := by kernel_rfl
  have hcs := Lib.cells_of_tab Tryz.underlying116 Tryz.underlying96 c87 c102 hd
  unfold Lib.TabIs
  exact hvar.trans (by rw [← hcs, Array.toArray_toList])
theorem ways_of {w : World} (h : Lib.VarReads Tryz.prog w "cordelle/line.ways" Rows.laid_cordelle_line_ways) : WaysAt w := by
  obtain ⟨g, t, cs, fuel, p, hg, hty, hvar, hd⟩ := h
  obtain rfl := Option.some.inj (g0.symm.trans hg)
  obtain rfl := Option.some.inj (gt0.symm.trans hty)
  have hone : ∀ (i : Nat) (l : List UInt8), i < 2 → ([(DataW.lit (.string [116, 104, 101, 114, 101])), (.lit (.string [98, 97, 99, 107]))] : List (DataW Unit))[i]? = some (.lit (.string l)) → w.cell? ⟨0, i, none⟩ = some (.string ⟨l.toArray⟩) := by
    intro i l hi hl
    obtain ⟨fuel', d, q, hdi, he⟩ := Lib.array_elem Tryz.underlying47 hd i hi
    rw [hl] at hdi
    obtain rfl := Option.some.inj hdi
    rw [c9, Nat.mul_one] at he
    obtain ⟨s, e1, e2, _⟩ := DataW.trod_string Tryz.underlying9 he
    rw [World.var?_cell hg hvar i, ← Array.getElem?_toList]
    have hs : s = ⟨l.toArray⟩ := by
      have : l = s.data.toList := by simp at e2; exact e2.1
      subst this; rfl
    rw [← hs]
    have h0 : ((cs.toList.drop i).take 1)[0]? = some (.string s) := by rw [e1]; rfl
    simpa using h0
  exact ⟨hone 0 _ (by decide) rfl, hone 1 _ (by decide) rfl⟩
theorem glob_of {w : World} (hL : laidMetH Tryz.prog Rows.lineTextsRow.laid w) (hsh : w.ShapedOpen Tryz.prog) : Glob w := by
  rw [MakeChecks.laidMetH_plain _ _ _ (by kernel_rfl)] at hL
  refine ⟨utf_of ?_ ?_, ways_of ?_, ?_, pow_of ?_⟩
  · rw [← first_data]; exact Lib.laidMet.reads hL (by simp [Rows.lineTextsRow])
  · rw [← accept_data]; exact Lib.laidMet.reads hL (by simp [Rows.lineTextsRow])
  · exact Lib.laidMet.reads hL (by simp [Rows.lineTextsRow])
  · exact cell_of_shapedOpen_int (P := Tryz.prog) (g := 2) (t := 3) (zero := #[.int .i64 0]) hsh (of_decide_eq_true (by kernel_rfl)) (by kernel_rfl) rfl (by kernel_rfl) (by kernel_rfl) Tryz.underlying3
  · rw [← pow_data]; exact Lib.laidMet.reads hL (by simp [Rows.lineTextsRow])
end Go.Proofs.YtddfpnljkaodcaaGreatDoor
