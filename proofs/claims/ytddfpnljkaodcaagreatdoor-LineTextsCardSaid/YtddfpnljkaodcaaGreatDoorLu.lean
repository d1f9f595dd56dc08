/-
  Layer 31 (line): the fixed facts (awake).
-/
import Derived.Test.YtddfpnljkaodcaaGreatDoorZt
namespace Go.Proofs.YtddfpnljkaodcaaGreatDoor
open Go.RowKit PLineTexts Dp Go.Proofs.YtddfpnljkaodcaaGreatDoorW.PrintWords

def a1B : ByteArray := ⟨#[32, 100, 101, 108, 105, 118, 101, 114, 32, 116, 104, 101, 114, 101, 32, 32, 49, 32, 48]⟩
def a2B : ByteArray := ⟨#[100, 101, 108, 105, 118, 101, 114, 32, 48, 32, 49, 32, 48]⟩
def dB : ByteArray := ⟨#[100, 101, 108, 105, 118, 101, 114]⟩
def tB : ByteArray := ⟨#[100, 101, 108, 105, 118, 101, 114, 32, 116, 104, 101, 114, 101, 32, 49, 32, 48]⟩
theorem fact1 : (Pl.parseF a1B.data.toList).2 = 0 ∧ (Pl.parseF a1B.data.toList).1.word = dB.data.toList ∧ (Pl.parseF a1B.data.toList).1.N = [0, 1, 0] ∧ (Pl.parseF a1B.data.toList).1.S = [] := by
  refine ⟨?_, ?_, ?_, ?_⟩ <;> decide +kernel
theorem fact2 : (Pl.parseF a2B.data.toList).2 = 1 := by decide +kernel
theorem fact3 : textF dB [0, 1, 0] [] = tB.data.toList := by decide +kernel

theorem awake_step1 {word : ByteArray} {N : List Int} {S : List ByteArray} {err : Int} (h : StepIs a1B word N S err) : word = dB ∧ N = [0, 1, 0] ∧ S = [] ∧ err = 0 := by
  obtain ⟨h1, h2, h3, h4⟩ := h
  obtain ⟨f1, f2, f3, f4⟩ := fact1
  refine ⟨dl_inj (h1.trans f2), by rw [h2, f3]; rfl, ?_, by rw [h4, f1]; rfl⟩
  rw [f4] at h3
  exact List.map_eq_nil_iff.1 h3
theorem awake_step2 {word : ByteArray} {N : List Int} {S : List ByteArray} {err : Int} (h : StepIs a2B word N S err) : err = 1 := by rw [h.2.2.2, fact2]; rfl

def PostA (w : World) (e : Ending) (w' : World) : Prop := e = .returned (.bool true) ∧ Below w.heap.size w w'

set_option maxHeartbeats 2000000 in
set_option maxRecDepth 100000 in
theorem awake_any (w : World) (hG : Glob w) : Calls Tryz.prog 4 #[] w (PostA w) := by
  have HG := Lib.hid hG
  clear hG
  go_enter Tryz.func4, Tryz.ntmps4
  go_wp2_with (go_at_call 11; refine (parse_c _ _ HG.out).mono ?_)
  rintro e w1 ⟨word, N, S, err, A1, c1, A2, c2, rfl, hst, hR, hb1⟩
  obtain ⟨rfl, rfl, rfl, rfl⟩ := awake_step1 hst
  have HR := Lib.hid hR
  have HB1 := Lib.hid hb1
  clear hst hR hb1
  have hG1 : Glob (w1.alloc (.cells #[.string dB, .slice A1 3 c1, .slice A2 0 c2] 29)) := HG.out.below (HB1.out.alloc HB1.out.size _)
  have hbox := heap_alloc_new w1 (.cells #[.string dB, .slice A1 3 c1, .slice A2 0 c2] 29)
  have HG1 := Lib.hid hG1
  have HBX := Lib.hid hbox
  clear hG1 hbox
  go_wp2_with (go_at_call 11; refine (parse_c _ _ HG1.out).mono ?_)
  rintro e w2 ⟨word', N', S', err', B1, d1, B2, d2, rfl, hst, hR2, hb2⟩
  obtain rfl := awake_step2 hst
  have HB2 := Lib.hid hb2
  clear hst hR2 hb2
  have hsz : w1.heap.size + 1 ≤ w2.heap.size := by have := HB2.out.size; simpa using this
  have hx1 : w2.heap[w1.heap.size]? = some (.cells #[.string dB, .slice A1 3 c1, .slice A2 0 c2] 29 (0, 0)) := by rw [HB2.out.block _ (by simp)]; exact HBX.out
  have hw1 : Below w1.heap.size w1 w2 := ((Below.refl _ w1).alloc (Nat.le_refl _) _).trans (HB2.out.mono (by simp))
  have hw2 : Below w2.heap.size w2 (w2.alloc (.cells #[.string word', .slice B1 N'.length d1, .slice B2 S'.length d2] 29)) := (Below.refl _ w2).alloc (Nat.le_refl _) _
  generalize hW2 : w2.alloc (.cells #[.string word', .slice B1 N'.length d1, .slice B2 S'.length d2] 29) = W2 at hw2
  have hx2 : W2.heap[w1.heap.size]? = some (.cells #[.string dB, .slice A1 3 c1, .slice A2 0 c2] 29 (0, 0)) := by rw [hw2.block _ (by omega)]; exact hx1
  have hw3 : Below W2.heap.size W2 (W2.alloc (.cells #[.int .i64 0, .int .i64 1, .int .i64 0] 3)) := (Below.refl _ W2).alloc (Nat.le_refl _) _
  have hlit := heap_alloc_new W2 (.cells #[.int .i64 0, .int .i64 1, .int .i64 0] 3)
  have e0 : W2.cell? ⟨w1.heap.size, 0, none⟩ = some (.string dB) := by rw [Lib.cell_of_heap hx2]; rfl
  have e1 : W2.cell? ⟨w1.heap.size, 1, none⟩ = some (.slice A1 3 c1) := by rw [Lib.cell_of_heap hx2]; rfl
  have hdd : dB.toList = [100, 101, 108, 105, 118, 101, 114] := by decide +kernel
  have hb12 : Below w1.heap.size w1 W2 := hw1.trans (hw2.mono (by omega))
  have hR3 : Rows3 (W2.alloc (.cells #[.int .i64 0, .int .i64 1, .int .i64 0] 3)) [0, 1, 0] [] A1 A2 c1 c2 := HR.out.below (hb12.trans (hw3.mono hb12.size))
  have hlc : Kd.C (Kd.int .i64) (W2.alloc (.cells #[.int .i64 0, .int .i64 1, .int .i64 0] 3)) (some ⟨W2.heap.size, 0, none⟩) 3 [0, 1, 0] := by
    refine Kd.C_of_reads (d := (0 : Int)) ⟨rfl, by decide, fun _ => ⟨_, rfl, fun j hj => ?_⟩⟩
    have hj3 : j < 3 := hj
    have ha : (⟨W2.heap.size, 0, none⟩ : Addr).add j = ⟨W2.heap.size, 0 + j, none⟩ := add_at _ _ _
    rw [ha, Lib.cell_of_heap hlit]
    clear hj
    match j, hj3 with
    | 0, _ => rfl
    | 1, _ => rfl
    | 2, _ => rfl
  have hbw : Below w.heap.size w (W2.alloc (.cells #[.int .i64 0, .int .i64 1, .int .i64 0] 3)) := HB1.out.trans ((hb12.trans (hw3.mono hb12.size)).mono HB1.out.size)
  have hx3 : (W2.alloc (.cells #[.int .i64 0, .int .i64 1, .int .i64 0] 3)).heap[w1.heap.size]? = some (.cells #[.string dB, .slice A1 3 c1, .slice A2 0 c2] 29 (0, 0)) := by rw [hw3.block _ (by have := hw2.size; omega)]; exact hx2
  have HSAME := Lib.hid (cordellelaw01_Same.calls 10 A1 c1 [0, 1, 0] (some ⟨W2.heap.size, 0, none⟩) 3 [0, 1, 0] true _ hR3.2.2.1 hR3.1 hlc (Nat.le_refl _) (by decide +kernel))
  have HR3 := Lib.hid hR3
  have HBW := Lib.hid hbw
  have HX3 := Lib.hid hx3
  clear hR3 hlc hbw hx3 hx1 hx2 hw1 hw2 hw3 hlit hb12
  go_wp2_with (go_at_call 12; refine (HSAME.out).mono ?_)
  rintro e w4 ⟨rfl, hd⟩
  have hb4 := hd.below
  have hx4 : w4.heap[w1.heap.size]? = some (.cells #[.string dB, .slice A1 3 c1, .slice A2 0 c2] 29 (0, 0)) := by
    have hlt := (Array.getElem?_eq_some_iff.1 HX3.out).1
    rw [hb4.block _ hlt]; exact HX3.out
  have f0 : w4.cell? ⟨w1.heap.size, 0, none⟩ = some (.string dB) := by rw [Lib.cell_of_heap hx4]; rfl
  have f1 : w4.cell? ⟨w1.heap.size, 1, none⟩ = some (.slice A1 3 c1) := by rw [Lib.cell_of_heap hx4]; rfl
  have f2 : w4.cell? ⟨w1.heap.size, 2, none⟩ = some (.slice A2 0 c2) := by rw [Lib.cell_of_heap hx4]; rfl
  have hR4 : Rows3 w4 [0, 1, 0] [] A1 A2 c1 c2 := HR3.out.below hb4
  have hbw4 : Below w.heap.size w w4 := HBW.out.trans (hb4.mono HBW.out.size)
  have hG4 : Glob w4 := HG.out.below hbw4
  have HTEXT := Lib.hid (text_any dB [0, 1, 0] [] A1 A2 c1 c2 w4 hG4 hR4.2.2.2.2.1 hR4.2.2.2.2.2 hR4.1 hR4.2.1 (by decide) (by decide) (by decide) (by decide) (by decide))
  have HBW4 := Lib.hid hbw4
  clear hR4 hbw4 hG4 hx4 hb4 hd
  go_wp2_with (go_at_call 9; refine (HTEXT.out).mono ?_)
  rintro e w5 ⟨rfl, hb5⟩
  have htt : (⟨(textF dB [0, 1, 0] []).toArray⟩ : ByteArray).toList = [100, 101, 108, 105, 118, 101, 114, 32, 116, 104, 101, 114, 101, 32, 49, 32, 48] := by rw [fact3]; decide +kernel
  have hb05 : Below w.heap.size w w5 := HBW4.out.trans (hb5.mono HBW4.out.size)
  go_wp2
  exact bodyPost_ret (v := .bool true) (by simp [results, Tryz.results4, go_sem]) rfl ⟨rfl, hb05⟩
end Go.Proofs.YtddfpnljkaodcaaGreatDoor
