/-
  Layer 31 (line): LineReads, walked: true for every text.
-/
import Derived.Test.YtddfpnljkaodcaaDoorLu
namespace Go.Proofs.YtddfpnljkaodcaaDoor
open Go.RowKit PLineReads Dp Go.Proofs.YtddfpnljkaodcaaDoorW.PrintWords

theorem cut_any (s : ByteArray) (n : Int) (h0 : 0 ≤ n) (w : World) : ∃ t, Calls Tryd.prog 7 #[.string s, .int .i64 n] w (fun e w' => e = .returned (.string t) ∧ Drawn0 w w') ∧ (t.size : Int) ≤ max n 0 ∧ dl t = (dl s).take n.toNat := by
  by_cases h : (s.size : Int) > n
  · refine ⟨s.extract 0 n.toNat, cordellelaw02_Cut.calls s n _ w ?_, ?_, ?_⟩
    · unfold cordellelaw02_Cut.f
      rw [if_pos h, if_pos h0, if_pos (by omega)]
    · simp only [ByteArray.size_extract]; omega
    · rw [dl_extract]; simp
  · refine ⟨s, cordellelaw02_Cut.calls s n _ w ?_, by omega, ?_⟩
    · unfold cordellelaw02_Cut.f
      rw [if_neg h]
    · rw [List.take_of_length_le]; rw [dl_len]; omega

set_option maxHeartbeats 2000000 in
set_option maxRecDepth 100000 in
theorem reads_any (s : ByteArray) (w : World) (hG : Glob w) : Calls Tryd.prog 3 #[.string s] w (PostA w) := by
  have HG := Lib.hid hG
  clear hG
  go_enter Tryd.func3, Tryd.ntmps3
  go_wp2_with (go_at_call 6; refine (awake_any _ HG.out).mono ?_)
  rintro e w1 ⟨rfl, hb1⟩
  have HB1 := Lib.hid hb1
  clear hb1
  obtain ⟨t, hcut, _, _⟩ := cut_any s 4010 (by decide) w1
  have HCUT := Lib.hid hcut
  clear hcut
  go_wp2_with (go_at_call 7; refine (HCUT.out).mono ?_)
  rintro e w2 ⟨rfl, hd2⟩
  have hb2 := hd2.below
  have HB2 := Lib.hid (HB1.out.trans (hb2.mono HB1.out.size))
  clear hb2 hd2
  go_wp2_with (go_at_call 8; refine (parse_c t _ (HG.out.below HB2.out)).mono ?_)
  rintro e w3 ⟨word, N, S, err, A1, c1, A2, c2, rfl, hst, hR, hb3⟩
  have HST := Lib.hid hst
  have HR := Lib.hid hR
  have HB3 := Lib.hid (HB2.out.trans (hb3.mono HB2.out.size))
  have HBX := Lib.hid (heap_alloc_new w3 (.cells #[.string word, .slice A1 N.length c1, .slice A2 S.length c2] 27))
  have HBA := Lib.hid ((Below.refl w3.heap.size w3).alloc (Nat.le_refl _) (.cells #[.string word, .slice A1 N.length c1, .slice A2 S.length c2] 27))
  clear hst hR hb3
  go_wp2_with (go_at_call 9; refine (ref_c t _).mono ?_)
  rintro e w4 ⟨word', N', S', err', B1, d1, B2, d2, rfl, hst', hn, hs, hk1, hk2, hb4⟩
  obtain ⟨rfl, rfl, rfl, rfl⟩ := step_same HST.out hst'
  have hx4 : w4.heap[w3.heap.size]? = some (.cells #[.string word', .slice A1 N'.length c1, .slice A2 S'.length c2] 27 (0, 0)) := by rw [hb4.block _ (by simp)]; exact HBX.out
  have hlt4 : w3.heap.size < w4.heap.size := (Array.getElem?_eq_some_iff.1 hx4).1
  have hb34 : Below w3.heap.size w3 w4 := HBA.out.trans (hb4.mono (by simp))
  have hb45 : Below w4.heap.size w4 (w4.alloc (.cells #[.string word', .slice B1 N'.length d1, .slice B2 S'.length d2] 31)) := (Below.refl _ w4).alloc (Nat.le_refl _) _
  have hy := heap_alloc_new w4 (.cells #[.string word', .slice B1 N'.length d1, .slice B2 S'.length d2] 31)
  generalize hW : w4.alloc (.cells #[.string word', .slice B1 N'.length d1, .slice B2 S'.length d2] 31) = W at hb45 hy
  have hx5 : W.heap[w3.heap.size]? = some (.cells #[.string word', .slice A1 N'.length c1, .slice A2 S'.length c2] 27 (0, 0)) := by rw [hb45.block _ hlt4]; exact hx4
  have f0 : W.cell? ⟨w3.heap.size, 0, none⟩ = some (.string word') := by rw [Lib.cell_of_heap hx5]; rfl
  have f1 : W.cell? ⟨w3.heap.size, 1, none⟩ = some (.slice A1 N'.length c1) := by rw [Lib.cell_of_heap hx5]; rfl
  have f2 : W.cell? ⟨w3.heap.size, 2, none⟩ = some (.slice A2 S'.length c2) := by rw [Lib.cell_of_heap hx5]; rfl
  have g0 : W.cell? ⟨w4.heap.size, 0, none⟩ = some (.string word') := by rw [Lib.cell_of_heap hy]; rfl
  have g1 : W.cell? ⟨w4.heap.size, 1, none⟩ = some (.slice B1 N'.length d1) := by rw [Lib.cell_of_heap hy]; rfl
  have g2 : W.cell? ⟨w4.heap.size, 2, none⟩ = some (.slice B2 S'.length d2) := by rw [Lib.cell_of_heap hy]; rfl
  have hb35 : Below w3.heap.size w3 W := hb34.trans (hb45.mono (Nat.le_of_lt hlt4))
  have hR5 := HR.out.below hb35
  have HIS := Lib.hid (is_c word' N' S' A1 A2 B1 B2 c1 c2 d1 d2 W hR5.2.2.1 hR5.2.2.2.1 (Kd.C_below hk1 hb45) (Kd.C_below hk2 hb45) hR5.1 hR5.2.1 hn hs)
  have HBW := Lib.hid (HB3.out.trans (hb35.mono HB3.out.size))
  clear hx4 hx5 hy hb34 hb35 hb45 hR5 hk1 hk2 hb4 hst'
  go_wp2_with (go_at_call 10; refine (HIS.out).mono ?_)
  rintro e w6 ⟨rfl, hb6⟩
  have hb06 : Below w.heap.size w w6 := HBW.out.trans (hb6.mono HBW.out.size)
  go_wp2
  exact bodyPost_ret (v := .bool true) (by simp [results, Tryd.results3, go_sem]) rfl ⟨rfl, hb06⟩
end Go.Proofs.YtddfpnljkaodcaaDoor
