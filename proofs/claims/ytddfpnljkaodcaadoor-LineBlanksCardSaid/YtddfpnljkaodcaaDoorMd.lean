/-
  Layer 31 (line): LineBack, walked: a step is written as the document says, and read from that.
-/
import Derived.Test.YtddfpnljkaodcaaDoorMb
import Derived.Test.YtddfpnljkaodcaaDoorMc
import Derived.Test.YtddfpnljkaodcaaDoorLv
namespace Go.Proofs.YtddfpnljkaodcaaDoor
open Go.RowKit PLineReads Dp Go.Proofs.YtddfpnljkaodcaaDoorW.PrintWords

def PostRC2 (s : ByteArray) (w : World) (e : Ending) (w' : World) : Prop :=
  ∃ word N S err A1 c1 A2 c2, e = .returned (.tuple #[.agg #[.string word, .slice A1 N.length c1, .slice A2 S.length c2], .int .i64 err]) ∧ StepIs s word N S err ∧ Rows3 w' N S A1 A2 c1 c2 ∧ Below w.heap.size w w'
theorem ref_c2 (s : ByteArray) (w : World) : Calls Tryd.prog 9 #[.string s] w (PostRC2 s w) := by
  obtain ⟨k, word, N, S, err, hf, hst⟩ := parse_f s
  refine (cordelleref31_Parse.calls k s word N S err w hf).mono ?_
  rintro e w' ⟨v1, v2, rfl, h1, h2, hb⟩
  obtain ⟨A1, c1, rfl, l1, r1⟩ := Kd.R_reads h1
  obtain ⟨A2, c2, rfl, l2, r2⟩ := Kd.R_reads h2
  obtain ⟨A1', c1', e1, _, _, _, hd1⟩ := own_rd (Kd.own_of_R h1)
  obtain ⟨A2', c2', e2, _, _, _, hd2⟩ := own_rd (Kd.own_of_R h2)
  injection e1 with e1 _ _; subst e1
  injection e2 with e2 _ _; subst e2
  exact ⟨word, N, S, err, A1, c1, A2, c2, rfl, hst, ⟨l1, l2, r1, r2, hd1, hd2⟩, hb⟩

/-- the step of a refused line is none -/
theorem step_none {s word : ByteArray} {N : List Int} {S : List ByteArray} {err : Int} (h : StepIs s word N S err) (he : err ≠ 0) : word = ⟨#[]⟩ ∧ N = [] ∧ S = [] := by
  obtain ⟨h1, h2, h3, h4⟩ := h
  have key : (Pl.parseF s.data.toList).2 ≠ 0 → (Pl.parseF s.data.toList).1 = ⟨[], [], []⟩ := by
    unfold Pl.parseF
    split
    · intro _; rfl
    · split
      · intro _; rfl
      · intro h; exact absurd rfl h
  have hk := key (by omega)
  rw [hk] at h1 h2 h3
  exact ⟨dl_inj h1, h2, List.map_eq_nil_iff.1 h3⟩
/-- a short line's step: its sizes, its text, and what is read of that -/
def Back (word : ByteArray) (N : List Int) (S : List ByteArray) (tb : ByteArray) : Prop :=
  N.length ≤ 100000 ∧ S.length ≤ 100000 ∧ (∀ n ∈ N, -9223372036854775808 ≤ n ∧ n ≤ 9223372036854775807) ∧ word.size ≤ 100000 ∧ (∀ t ∈ S, t.size ≤ 100000) ∧
  tb = ⟨(textF word N S).toArray⟩ ∧ ∀ word' N' S' err', StepIs tb word' N' S' err' → word' = word ∧ N' = N ∧ S' = S ∧ err' = 0
theorem step_back {s word : ByteArray} {N : List Int} {S : List ByteArray} (h : StepIs s word N S 0) (hs : s.size ≤ 400) : Back word N S ⟨(textF word N S).toArray⟩ := by
  obtain ⟨h1, h2, h3, h4⟩ := h
  have hs' : s.data.toList.length ≤ 400 := by have := dl_len s; unfold dl at this; omega
  obtain ⟨⟨a, b, c, d, e⟩, hl, hp⟩ := Tx.parse_back hs' (by omega)
  rw [← h1, ← h2, ← h3, ← textF_ref] at hp
  refine ⟨?_, ?_, ?_, ?_, ?_, rfl, ?_⟩
  · rw [h2, List.length_map]; omega
  · rw [← h3, List.length_map] at c; omega
  · intro n hn
    rw [h2] at hn
    obtain ⟨m, hm, rfl⟩ := List.mem_map.1 hn
    have := d m hm
    omega
  · rw [← h1] at a
    have := dl_len word; unfold dl at this; omega
  · intro t ht
    rw [← h3] at e
    have := e _ (List.mem_map.2 ⟨t, ht, rfl⟩)
    have := dl_len t; unfold dl at this; omega
  · rintro word' N' S' err' ⟨k1, k2, k3, k4⟩
    have hdd : (⟨(textF word N S).toArray⟩ : ByteArray).data.toList = textF word N S := rfl
    rw [hdd, hp] at k1 k2 k3 k4
    simp only at k1 k2 k3 k4
    refine ⟨dl_inj (k1.trans h1.symm), k2.trans h2.symm, ?_, k4⟩
    have hinj : ∀ a b : ByteArray, a.data.toList = b.data.toList → a = b := fun a b h => ByteArray.ext (Array.toList_inj.mp h)
    exact (List.map_inj_right hinj).1 (k3.trans h3.symm)

def PostTb (tb : ByteArray) (w : World) (e : Ending) (w' : World) : Prop := e = .returned (.string tb) ∧ Below w.heap.size w w'
theorem text_back {word : ByteArray} {N : List Int} {S : List ByteArray} {tb : ByteArray} (hB : Back word N S tb) {A1 A2 : Option Addr} {c1 c2 : Nat} {w : World} (hG : Glob w) (hR : Rows3 w N S A1 A2 c1 c2) :
    Calls Tryd.prog 11 #[.agg #[.string word, .slice A1 N.length c1, .slice A2 S.length c2]] w (PostTb tb w) := by
  obtain ⟨b1, b2, b3, b4, b5, rfl, _⟩ := hB
  exact text_any word N S A1 A2 c1 c2 w hG hR.2.2.2.2.1 hR.2.2.2.2.2 hR.1 hR.2.1 b1 b2 b3 b4 b5
theorem rtext_back {word : ByteArray} {N : List Int} {S : List ByteArray} {tb : ByteArray} (hB : Back word N S tb) {A1 A2 : Option Addr} {c1 c2 : Nat} {w : World} (hG : Glob w) (hR : Rows3 w N S A1 A2 c1 c2) :
    Calls Tryd.prog 12 #[.agg #[.string word, .slice A1 N.length c1, .slice A2 S.length c2]] w (PostTb tb w) := by
  obtain ⟨b1, b2, b3, b4, b5, rfl, _⟩ := hB
  refine (rtext_any word N S A1 A2 c1 c2 w hG hR.2.2.2.2.1 hR.2.2.2.2.2 hR.1 hR.2.1 b1 b2 b3 b4 b5).mono ?_
  rintro e w' ⟨he, hb⟩
  refine ⟨?_, hb⟩
  rw [he, textF_ref]; rfl

set_option maxHeartbeats 4000000 in
set_option maxRecDepth 100000 in
theorem back_any (s : ByteArray) (w : World) (hG : Glob w) : Calls Tryd.prog 4 #[.string s] w (PostA w) := by
  have HG := Lib.hid hG
  clear hG
  go_enter Tryd.func4, Tryd.ntmps4
  go_wp2_with (go_at_call 6; refine (awake_any _ HG.out).mono ?_)
  rintro e w1 ⟨rfl, hb1⟩
  have HB1 := Lib.hid hb1
  clear hb1
  obtain ⟨t, hcut, hct, _⟩ := cut_any s 400 (by decide) w1
  have HCUT := Lib.hid hcut
  have HTS := Lib.hid (show t.size ≤ 400 by omega)
  clear hcut hct
  go_wp2_with (go_at_call 7; refine (HCUT.out).mono ?_)
  rintro e w2 ⟨rfl, hd2⟩
  have hb2 := hd2.below
  have HB2 := Lib.hid (HB1.out.trans (hb2.mono HB1.out.size))
  clear hb2 hd2
  go_wp2_with (go_at_call 8; refine (parse_c t _ (HG.out.below HB2.out)).mono ?_)
  rintro e w3 ⟨word, N, S, err, A1, c1, A2, c2, rfl, hst, hR, hb3⟩
  have HST := Lib.hid hst
  have HR := Lib.hid hR
  have HB3 := Lib.hid (HB2.out.trans (hb3.mono HB2.out.size))
  have HBX := Lib.hid (heap_alloc_new w3 (.cells #[.string word, .slice A1 N.length c1, .slice A2 S.length c2] 27))
  have HBA := Lib.hid ((Below.refl w3.heap.size w3).alloc (Nat.le_refl _) (.cells #[.string word, .slice A1 N.length c1, .slice A2 S.length c2] 27))
  clear hst hR hb3
  go_wp2_with (go_at_call 9; refine (ref_c2 t _).mono ?_)
  rintro e w4 ⟨word', N', S', err', B1, d1, B2, d2, rfl, hst', hR', hb4⟩
  obtain ⟨rfl, rfl, rfl, rfl⟩ := step_same HST.out hst'
  have hx4 : w4.heap[w3.heap.size]? = some (.cells #[.string word', .slice A1 N'.length c1, .slice A2 S'.length c2] 27 (0, 0)) := by rw [hb4.block _ (by simp)]; exact HBX.out
  have hlt4 : w3.heap.size < w4.heap.size := (Array.getElem?_eq_some_iff.1 hx4).1
  have hb34 : Below w3.heap.size w3 w4 := HBA.out.trans (hb4.mono (by simp))
  have hb45 : Below w4.heap.size w4 (w4.alloc (.cells #[.string word', .slice B1 N'.length d1, .slice B2 S'.length d2] 31)) := (Below.refl _ w4).alloc (Nat.le_refl _) _
  have hy := heap_alloc_new w4 (.cells #[.string word', .slice B1 N'.length d1, .slice B2 S'.length d2] 31)
  have hWs : (w4.alloc (.cells #[.string word', .slice B1 N'.length d1, .slice B2 S'.length d2] 31)).heap.size = w4.heap.size + 1 := by simp
  generalize hW : w4.alloc (.cells #[.string word', .slice B1 N'.length d1, .slice B2 S'.length d2] 31) = W at hb45 hy hWs
  have hx5 : W.heap[w3.heap.size]? = some (.cells #[.string word', .slice A1 N'.length c1, .slice A2 S'.length c2] 27 (0, 0)) := by rw [hb45.block _ hlt4]; exact hx4
  have hb35 : Below w3.heap.size w3 W := hb34.trans (hb45.mono (Nat.le_of_lt hlt4))
  have hR5 := HR.out.below hb35
  have hRy := hR'.below hb45
  have HBW := Lib.hid (HB3.out.trans (hb35.mono HB3.out.size))
  have HX5 := Lib.hid hx5
  have HY := Lib.hid hy
  have HWS := Lib.hid hWs
  have HLT := Lib.hid hlt4
  clear hx4 hb34 hb35 hb45 hb4 hst' hWs hlt4 hR' HBX HBA HB3
  by_cases herr : err' = 0
  · subst herr
    have hback := step_back HST.out HTS.out
    generalize (⟨(textF word' N' S').toArray⟩ : ByteArray) = tb at hback
    have f0 : W.cell? ⟨w3.heap.size, 0, none⟩ = some (.string word') := by rw [Lib.cell_of_heap hx5]; rfl
    have f1 : W.cell? ⟨w3.heap.size, 1, none⟩ = some (.slice A1 N'.length c1) := by rw [Lib.cell_of_heap hx5]; rfl
    have f2 : W.cell? ⟨w3.heap.size, 2, none⟩ = some (.slice A2 S'.length c2) := by rw [Lib.cell_of_heap hx5]; rfl
    have HBACK := Lib.hid hback
    have HR5 := Lib.hid hR5
    have HRY := Lib.hid hRy
    clear hback hR5 hRy hx5 hy
    go_wp2_with (go_at_call 11; refine (text_back HBACK.out (HG.out.below HBW.out) HR5.out).mono ?_)
    rintro e w5 ⟨rfl, hb5⟩
    have HB5 := Lib.hid hb5
    have HBW5 := Lib.hid (HBW.out.trans (hb5.mono HBW.out.size))
    clear hb5 f0 f1 f2
    go_wp2_with (go_at_call 8; refine (parse_c tb _ (HG.out.below HBW5.out)).mono ?_)
    rintro e w6 ⟨word2, N2, S2, err2, C1, e1, C2, e2, rfl, hst2, hR2, hb6⟩
    obtain ⟨rfl, rfl, rfl, rfl⟩ := HBACK.out.2.2.2.2.2.2 _ _ _ _ hst2
    have hbW6 : Below W.heap.size W w6 := HB5.out.trans (hb6.mono HB5.out.size)
    have hbn : Below w6.heap.size w6 (w6.alloc (.cells #[.string word2, .slice C1 N2.length e1, .slice C2 S2.length e2] 27)) := (Below.refl _ w6).alloc (Nat.le_refl _) _
    have hz := heap_alloc_new w6 (.cells #[.string word2, .slice C1 N2.length e1, .slice C2 S2.length e2] 27)
    generalize hV : w6.alloc (.cells #[.string word2, .slice C1 N2.length e1, .slice C2 S2.length e2] 27) = V at hbn hz
    have hbWV : Below W.heap.size W V := hbW6.trans (hbn.mono hbW6.size)
    have hyV : V.heap[w4.heap.size]? = some (.cells #[.string word2, .slice B1 N2.length d1, .slice B2 S2.length d2] 31 (0, 0)) := by
      rw [hbWV.block _ (by have := HWS.out; omega)]; exact HY.out
    have g0 : V.cell? ⟨w4.heap.size, 0, none⟩ = some (.string word2) := by rw [Lib.cell_of_heap hyV]; rfl
    have g1 : V.cell? ⟨w4.heap.size, 1, none⟩ = some (.slice B1 N2.length d1) := by rw [Lib.cell_of_heap hyV]; rfl
    have g2 : V.cell? ⟨w4.heap.size, 2, none⟩ = some (.slice B2 S2.length d2) := by rw [Lib.cell_of_heap hyV]; rfl
    have hRyV := HRY.out.below hbWV
    have hR2V := hR2.below hbn
    have HZ := Lib.hid hz
    have HYV := Lib.hid hyV
    have HRYV := Lib.hid hRyV
    have HR2V := Lib.hid hR2V
    have HBV := Lib.hid (HBW.out.trans (hbWV.mono HBW.out.size))
    have HRT := Lib.hid (rtext_back HBACK.out (HG.out.below HBV.out) hRyV)
    clear hbW6 hbn hz hbWV hyV hRyV hR2V hst2 hR2 hb6
    go_wp2_with (go_at_call 12; refine (HRT.out).mono ?_)
    rintro e w7 ⟨rfl, hb7⟩
    have hyv7 : w7.heap[w4.heap.size]? = some (.cells #[.string word2, .slice B1 N2.length d1, .slice B2 S2.length d2] 31 (0, 0)) := by
      rw [hb7.block _ (Array.getElem?_eq_some_iff.1 HYV.out).1]; exact HYV.out
    have hz7 : w7.heap[w6.heap.size]? = some (.cells #[.string word2, .slice C1 N2.length e1, .slice C2 S2.length e2] 27 (0, 0)) := by
      rw [hb7.block _ (Array.getElem?_eq_some_iff.1 HZ.out).1]; exact HZ.out
    have k0 : w7.cell? ⟨w4.heap.size, 0, none⟩ = some (.string word2) := by rw [Lib.cell_of_heap hyv7]; rfl
    have k1 : w7.cell? ⟨w4.heap.size, 1, none⟩ = some (.slice B1 N2.length d1) := by rw [Lib.cell_of_heap hyv7]; rfl
    have k2 : w7.cell? ⟨w4.heap.size, 2, none⟩ = some (.slice B2 S2.length d2) := by rw [Lib.cell_of_heap hyv7]; rfl
    have m0 : w7.cell? ⟨w6.heap.size, 0, none⟩ = some (.string word2) := by rw [Lib.cell_of_heap hz7]; rfl
    have m1 : w7.cell? ⟨w6.heap.size, 1, none⟩ = some (.slice C1 N2.length e1) := by rw [Lib.cell_of_heap hz7]; rfl
    have m2 : w7.cell? ⟨w6.heap.size, 2, none⟩ = some (.slice C2 S2.length e2) := by rw [Lib.cell_of_heap hz7]; rfl
    have hRy7 := HRYV.out.below hb7
    have hR27 := HR2V.out.below hb7
    have HIS := Lib.hid (is_c word2 N2 S2 C1 C2 B1 B2 e1 e2 d1 d2 w7 hR27.2.2.1 hR27.2.2.2.1 hRy7.2.2.1 hRy7.2.2.2.1 hR27.1 hR27.2.1 hRy7.1 hRy7.2.1)
    have HB07 := Lib.hid (HBV.out.trans (hb7.mono HBV.out.size))
    clear hyv7 hz7 hRy7 hR27 hb7 g0 g1 g2
    go_wp2_with (go_at_call 10; refine (HIS.out).mono ?_)
    rintro e w8 ⟨rfl, hb8⟩
    have hb08 : Below w.heap.size w w8 := HB07.out.trans (hb8.mono HB07.out.size)
    go_wp2
    exact bodyPost_ret (v := .bool true) (by simp [results, Tryd.results4, go_sem]) rfl ⟨rfl, hb08⟩
  · obtain ⟨rfl, rfl, rfl⟩ := step_none HST.out herr
    have hW' : w4.alloc (.cells #[.string ⟨#[]⟩, .slice B1 0 d1, .slice B2 0 d2] 31) = W := hW
    clear hW
    have hne : (err' != 0) = true := by rw [bne_iff_ne]; exact herr
    have f0 : W.cell? ⟨w3.heap.size, 0, none⟩ = some (.string ⟨#[]⟩) := by rw [Lib.cell_of_heap hx5]; rfl
    have f1 : W.cell? ⟨w3.heap.size, 1, none⟩ = some (.slice A1 0 c1) := by rw [Lib.cell_of_heap hx5]; rfl
    have f2 : W.cell? ⟨w3.heap.size, 2, none⟩ = some (.slice A2 0 c2) := by rw [Lib.cell_of_heap hx5]; rfl
    have HIS : Hid (Calls Tryd.prog 10 #[.agg #[.string ⟨#[]⟩, .slice A1 0 c1, .slice A2 0 c2], .agg #[.string ⟨#[]⟩, .slice none 0 0, .slice none 0 0]] W fun e w' => e = .returned (.bool true) ∧ Below W.heap.size W w') :=
      Lib.hid (is_c ⟨#[]⟩ [] [] A1 A2 none none c1 c2 0 0 W hR5.2.2.1 hR5.2.2.2.1 (Kd.C_nil _ _) (Kd.C_nil _ _) (Nat.zero_le _) (Nat.zero_le _) (Nat.zero_le _) (Nat.zero_le _))
    clear hR5 hRy hx5 hy herr
    go_wp2_with (go_at_call 10; refine (HIS.out).mono ?_)
    rintro e w8 ⟨rfl, hb8⟩
    have hb08 : Below w.heap.size w w8 := HBW.out.trans (hb8.mono HBW.out.size)
    go_wp2
    exact bodyPost_ret (v := .bool true) (by simp [results, Tryd.results4, go_sem]) rfl ⟨rfl, hb08⟩
end Go.Proofs.YtddfpnljkaodcaaDoor
