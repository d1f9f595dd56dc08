/-
  (*Step).take of layer 31 (line), at a way and at bytes.
-/
import Derived.Test.YtddfpnljkaodcaaGreatDoorLg
namespace Go.Proofs.YtddfpnljkaodcaaGreatDoor
open Go.RowKit

def thereB : ByteArray := ⟨#[116, 104, 101, 114, 101]⟩
def backB : ByteArray := ⟨#[98, 97, 99, 107]⟩
/-- the table of ways lies where the program keeps it -/
def WaysAt (w : World) : Prop := w.cell? ⟨0, 0, none⟩ = some (.string thereB) ∧ w.cell? ⟨0, 1, none⟩ = some (.string backB)
theorem ways_cells {w : World} (h : WaysAt w) : ∀ j, j < [thereB, backB].length → w.cell? ⟨0, 0 + j, none⟩ = some (.string ([thereB, backB].getD j ByteArray.empty)) := by
  intro j hj
  match j, hj with
  | 0, _ => exact h.1
  | 1, _ => exact h.2
def WayIs (p : ByteArray) (v : Int) : Prop := (v < 0 ∧ Pl.wayF p.data.toList = none) ∨ (0 ≤ v ∧ Pl.wayF p.data.toList = some v.toNat)
theorem way_idx (p : ByteArray) : WayIs p (Lib.idxOfS [thereB, backB] p) := by
  unfold WayIs Lib.idxOfS Lib.idxFromS Lib.idxFromS Lib.idxFromS Pl.wayF
  have e1 : (thereB = p) ↔ p.data.toList = Pl.there := by
    constructor
    · rintro rfl; rfl
    · intro h; apply ByteArray.ext; apply Array.toList_inj.mp; rw [h]; rfl
  have e2 : (backB = p) ↔ p.data.toList = Pl.back := by
    constructor
    · rintro rfl; rfl
    · intro h; apply ByteArray.ext; apply Array.toList_inj.mp; rw [h]; rfl
  by_cases h1 : thereB = p
  · rw [if_pos h1, if_pos (e1.1 h1)]; exact .inr ⟨by omega, rfl⟩
  · rw [if_neg h1, if_neg (fun h => h1 (e1.2 h))]
    by_cases h2 : backB = p
    · rw [if_pos h2, if_pos (e2.1 h2)]; exact .inr ⟨by omega, rfl⟩
    · rw [if_neg h2, if_neg (fun h => h2 (e2.2 h))]; exact .inl ⟨by omega, rfl⟩

set_option maxHeartbeats 2000000 in
set_option maxRecDepth 100000 in
theorem take_way (B b : Nat) (word p : ByteArray) (N : List Int) (S : List ByteArray) (vN vS : Value) (w : World) (h : StepAt w B b word N S vN vS) (hN : N.length ≤ 100000) (hW : WaysAt w) (hB : B ≤ w.heap.size) :
    Calls Tryz.prog 25 #[.pointer (some ⟨b, 0, none⟩), .int .i64 1, .string p] w (PostT B b word 1 p N S w) := by
  obtain ⟨i0, hi, hz0, hz1, hz2⟩ := info_parts info3
  have hways := ways_cells hW
  have hcall := Tryz.slices_Index_string 0 0 2 2 [thereB, backB] p w (by simp) (by omega) hways
  have hat := way_idx p
  have HNum := Lib.hid hat
  rw [show ([thereB, backB].take 2) = [thereB, backB] from rfl] at hcall
  generalize Lib.idxOfS [thereB, backB] p = v at hcall HNum
  obtain ⟨hW0, hW1⟩ := hW
  have HS := Lib.hid h
  clear h hways hat
  go_enter Tryz.func25, Tryz.ntmps25
  go_wp2_with (go_at_call 37; refine hcall.mono ?_)
  rintro e w1 ⟨rfl, rfl⟩
  have hs1 := HS.out
  have hb1 : Below w1.heap.size w1 w1 := Below.refl _ _
  obtain ⟨hBb, hbk, hownN, hownS⟩ := hs1
  have c1 : w1.cell? ⟨b, 1, none⟩ = some vN := by rw [Lib.cell_of_heap hbk]; rfl
  go_wp2_with (at_builtin; refine wpList_append_own _ rfl _ _ 22 rfl B 3 i0 (.int .i64 0) 1 8 Tryz.underlying22 hi hz0 hz1 hz2 rfl (by decide) _ _ _ rfl (hownN.alloc _) ⟨w1.heap.size, 0, none⟩ 1 1 [.int .i64 v] rfl rfl ?c1 ?c2 ?c3 ?c4 ?c5 ?_)
  case c1 => exact World.news_of_block (cs := #[.int .i64 v]) (t := 3) (fr := (0, 0)) (heap_alloc_new w1 _)
  case c2 => intro u hu; simp at hu; subst hu; rfl
  case c3 => unfold maxLen; omega
  case c4 => omega
  case c5 => have := hb1.size; simp; omega
  intro v' w2 hown' hgrow _
  have hlt : b < w1.heap.size := (Array.getElem?_eq_some_iff.1 hbk).1
  have hnb := own_ne hownN hbk (by decide)
  have hb2 : w2.heap[b]? = some (.cells #[.string word, vN, vS] 29 (0, 0)) := by
    rw [hgrow.block b (by simp; omega) (fun e => hnb e.symm), Lib.alloc_old w1 _ b hlt]
    exact hbk
  have d1 : w2.cell? ⟨b, 1, none⟩ = some vN := by rw [Lib.cell_of_heap hb2]; rfl
  have f1 : w2.frozen? ⟨b, 1, none⟩ = false := Lib.frozen_of_heap hb2 1
  have hS2 : w2.ownsRow B 9 1 vS S.length (strs S) := (hownS.alloc _).kept hgrow (own_ne_row hownS hownN (by decide))
  have hb12 : Below B w1 w2 := (((hb1.mono hB).alloc (by have := hb1.size; omega) _).grown hgrow (by have := hb1.size; simp; omega) (fun k hk => (hownN.lt k hk).1))
  obtain ⟨A, n', c', rfl⟩ : ∃ A n' c', v' = .slice A n' c' := by
    rcases hown'.2 with ⟨hv, _⟩ | ⟨g, cap, cur, hv, _⟩
    · exact ⟨_, _, _, hv⟩
    · exact ⟨_, _, _, hv⟩
  go_wp2
  go_ret
  have hne' := own_ne hown' hb2 (by decide)
  have hneS := own_ne hS2 hb2 (by decide)
  refine ⟨decide (v ≥ 0), N ++ [v], S, _, vS, rfl, ?_, by simp, by omega, ⟨hBb, heap_set_same hb2 1 _, ?_, own_set hS2 hneS 1 _⟩, hb12.setCell (p := ⟨b, 1, none⟩) hBb _⟩
  · rcases HNum.out with ⟨h0, h1⟩ | ⟨h0, h1⟩
    · exact .inl ⟨by rw [decide_eq_false_iff_not]; omega, h1⟩
    · exact .inr ⟨by rw [decide_eq_true_iff]; omega, v.toNat, h1, by rw [Int.toNat_of_nonneg h0], rfl⟩
  · have := own_set hown' hne' 1 (.slice A n' c')
    simpa [ints] using this

set_option maxHeartbeats 2000000 in
set_option maxRecDepth 100000 in
theorem take_bytes (B b : Nat) (word p : ByteArray) (N : List Int) (S : List ByteArray) (vN vS : Value) (w : World) (h : StepAt w B b word N S vN vS) (hN : S.length ≤ 100000) (hp : p.size ≤ 4000) (hB : B ≤ w.heap.size) :
    Calls Tryz.prog 25 #[.pointer (some ⟨b, 0, none⟩), .int .i64 2, .string p] w (PostT B b word 2 p N S w) := by
  obtain ⟨i0, hi, hz0, hz1, hz2⟩ := info_parts info9
  have HS := Lib.hid h
  clear h
  go_enter Tryz.func25, Tryz.ntmps25
  go_wp2_with (go_at_call 38; refine (unhex_any p _ hp).mono ?_)
  rintro e w1 ⟨v, ok, rfl, hnum, hb1⟩
  have hs1 := HS.out.below hb1
  obtain ⟨hBb, hbk, hownN, hownS⟩ := hs1
  have HNum := Lib.hid hnum
  clear hnum
  have c1 : w1.cell? ⟨b, 2, none⟩ = some vS := by rw [Lib.cell_of_heap hbk]; rfl
  go_wp2_with (at_builtin; refine wpList_append_own _ rfl _ _ 23 rfl B 9 i0 (.string ⟨#[]⟩) 1 16 Tryz.underlying23 hi hz0 hz1 hz2 rfl (by decide) _ _ _ rfl (hownS.alloc _) ⟨w1.heap.size, 0, none⟩ 1 1 [.string v] rfl rfl ?c1 ?c2 ?c3 ?c4 ?c5 ?_)
  case c1 => exact World.news_of_block (cs := #[.string v]) (t := 9) (fr := (0, 0)) (heap_alloc_new w1 _)
  case c2 => intro u hu; simp at hu; subst hu; rfl
  case c3 => unfold maxLen; omega
  case c4 => omega
  case c5 => have := hb1.size; simp; omega
  intro v' w2 hown' hgrow _
  have hlt : b < w1.heap.size := (Array.getElem?_eq_some_iff.1 hbk).1
  have hnb := own_ne hownS hbk (by decide)
  have hb2 : w2.heap[b]? = some (.cells #[.string word, vN, vS] 29 (0, 0)) := by
    rw [hgrow.block b (by simp; omega) (fun e => hnb e.symm), Lib.alloc_old w1 _ b hlt]
    exact hbk
  have d1 : w2.cell? ⟨b, 2, none⟩ = some vS := by rw [Lib.cell_of_heap hb2]; rfl
  have f1 : w2.frozen? ⟨b, 2, none⟩ = false := Lib.frozen_of_heap hb2 2
  have hN2 : w2.ownsRow B 3 1 vN N.length (ints N) := (hownN.alloc _).kept hgrow (own_ne_row hownN hownS (by decide))
  have hb12 : Below B w w2 := (((hb1.mono hB).alloc (by have := hb1.size; omega) _).grown hgrow (by have := hb1.size; simp; omega) (fun k hk => (hownS.lt k hk).1))
  obtain ⟨A, n', c', rfl⟩ : ∃ A n' c', v' = .slice A n' c' := by
    rcases hown'.2 with ⟨hv, _⟩ | ⟨g, cap, cur, hv, _⟩
    · exact ⟨_, _, _, hv⟩
    · exact ⟨_, _, _, hv⟩
  go_wp2
  go_ret
  have hne' := own_ne hown' hb2 (by decide)
  have hneN := own_ne hN2 hb2 (by decide)
  refine ⟨ok, N, S ++ [v], vN, _, rfl, ?_, by omega, by simp, ⟨hBb, heap_set_same hb2 2 _, own_set hN2 hneN 2 _, ?_⟩, hb12.setCell (p := ⟨b, 2, none⟩) hBb _⟩
  · rcases HNum.out with ⟨rfl, h1⟩ | ⟨rfl, h1⟩
    · exact .inr ⟨rfl, v, h1, rfl, rfl⟩
    · exact .inl ⟨rfl, h1⟩
  · have := own_set hown' hne' 2 (.slice A n' c')
    simpa [strs] using this
end Go.Proofs.YtddfpnljkaodcaaGreatDoor
