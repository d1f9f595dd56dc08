/-
  Layer 31 (line): LineTexts, walked.
-/
import Derived.Test.YtddfpnljkaodcaaGreatDoorMb
import Derived.Test.YtddfpnljkaodcaaGreatDoorLu
import Derived.Deep.DeepCutAuto
import Derived.Deep.QuietTactic
import Derived.BigQuiet
import Derived.Test.YtddfpnljkaodcaaGreatDoorZr
namespace Go.Proofs.YtddfpnljkaodcaaGreatDoor
open Go.RowKit PLineTexts Dp Go.Proofs.YtddfpnljkaodcaaGreatDoorW.PrintWords

/-- what the law's cut of a step leaves -/
def Cut3 (w : World) (word : ByteArray) (A1 : Option Addr) (n1 c1 : Nat) (r : List ByteArray) (wx : World) : Prop :=
  ∃ A c, r.length ≤ c ∧ wx.heap[w.heap.size]? = some (.cells #[.string word, .slice A1 n1 c1, .slice A r.length c] 25 (0, 0)) ∧ RdS wx wx.heap.size A (strs r) ∧ Below w.heap.size w wx ∧ (A = none → c = 0)

def PostTx (tb : ByteArray) (w : World) (e : Ending) (w' : World) : Prop := e = .returned (.string tb) ∧ Below w.heap.size w w'
theorem cells6 {w : World} {b g : Nat} {x y z x' y' z' : Value} {t t' : TypeId} (h : w.heap[b]? = some (.cells #[x, y, z] t (0, 0))) (h' : w.heap[g]? = some (.cells #[x', y', z'] t' (0, 0))) :
    w.cell? ⟨b, 0, none⟩ = some x ∧ w.cell? ⟨b, 1, none⟩ = some y ∧ w.cell? ⟨b, 2, none⟩ = some z ∧ w.cell? ⟨g, 0, none⟩ = some x' ∧ w.cell? ⟨g, 1, none⟩ = some y' ∧ w.cell? ⟨g, 2, none⟩ = some z' :=
  ⟨(cells3 h).1, (cells3 h).2.1, (cells3 h).2.2, (cells3 h').1, (cells3 h').2.1, (cells3 h').2.2⟩
theorem words_at {w : World} {g o : Nat} (h : ∀ j (hj : j < (strs wordsB).length), w.cell? ⟨g, o + j, none⟩ = some (strs wordsB)[j]) : ∀ j (hj : j < 18), w.cell? ⟨g, o + j, none⟩ = some (.string (wordsB[j]'hj)) := by
  intro j hj
  have hl : j < (strs wordsB).length := by simp only [strs, List.length_map]; exact hj
  rw [h j hl]
  simp [strs]
  rfl
/-- what the law's own loads read -/
def Loads3 (b : Nat) (x y z : Value) (w' : World) : Prop := w'.cell? ⟨b, 0, none⟩ = some x ∧ w'.cell? ⟨b, 1, none⟩ = some y ∧ w'.cell? ⟨b, 2, none⟩ = some z
theorem cut3_of {w w3 : World} {x y z : Value} {B : Nat} {word : ByteArray} {A1 A : Option Addr} {n1 c1 c : Nat} {r : List ByteArray} (hbox : w3.heap[w.heap.size]? = some (.cells #[x, y, z] 25 (0, 0))) (hown : w3.ownsRow B 9 1 (.slice A r.length c) r.length (strs r)) (hc : r.length ≤ c) (hb : Below w.heap.size w w3) :
    Cut3 w word A1 n1 c1 r (((w3.setCell ⟨w.heap.size, 0, none⟩ (.string word)).setCell ⟨w.heap.size, 1, none⟩ (.slice A1 n1 c1)).setCell ⟨w.heap.size, 2, none⟩ (.slice A r.length c)) := by
  have hne := own_ne hown hbox (by decide)
  have h1 := own_set (own_set (own_set hown hne 0 (.string word)) hne 1 (.slice A1 n1 c1)) hne 2 (.slice A r.length c)
  obtain ⟨A', c', e, _, _, _, hrd⟩ := own_rd h1
  injection e with e _ _
  subst e
  refine ⟨A, c, hc, ?_, hrd, ((hb.setCell (p := ⟨w.heap.size, 0, none⟩) (Nat.le_refl _) _).setCell (p := ⟨w.heap.size, 1, none⟩) (Nat.le_refl _) _).setCell (p := ⟨w.heap.size, 2, none⟩) (Nat.le_refl _) _, ?_⟩
  rotate_left
  · rintro rfl
    rcases hown.2 with ⟨h, _⟩ | ⟨_, _, _, h, _⟩
    · injection h
    · injection h with h _ _; cases h
  have := heap_set_same (heap_set_same (heap_set_same hbox 0 (.string word)) 1 (.slice A1 n1 c1)) 2 (.slice A r.length c)
  simpa using this

set_option linter.unusedSimpArgs false in
set_option maxHeartbeats 4000000 in
set_option maxRecDepth 100000 in
theorem texts_any (word : ByteArray) (N : List Int) (S : List ByteArray) (A1 A2 : Option Addr) (c1 c2 : Nat) (w : World) (hG : Glob w) (hN : RdS w w.heap.size A1 (ints N)) (hS : Kd.C Kd.string w A2 S.length S) (l1 : N.length ≤ c1) (l2 : S.length ≤ c2)
    (hNb : ∀ n ∈ N, -9223372036854775808 ≤ n ∧ n ≤ 9223372036854775807) (hNl : N.length ≤ 9223372036854775807) (hA1 : A1 = none → c1 = 0) :
    Calls Tryz.prog 3 #[.agg #[.string word, .slice A1 N.length c1, .slice A2 S.length c2]] w (PostA w) := by
  have hbox := heap_alloc_new w (.cells #[.string word, .slice A1 N.length c1, .slice A2 S.length c2] 25)
  have hb0 : Below w.heap.size w (w.alloc (.cells #[.string word, .slice A1 N.length c1, .slice A2 S.length c2] 25)) := (Below.refl _ w).alloc (Nat.le_refl _) _
  obtain ⟨word', hcut, hws⟩ := cut_all word 20 (by decide)
  obtain ⟨r, hrl, hrs, hfew⟩ := few_all S
  have HG := Lib.hid hG
  have HNB := Lib.hid hNb
  have HN := Lib.hid hN
  have HS := Lib.hid hS
  have HCUT := Lib.hid hcut
  have HFEW := Lib.hid hfew
  have HRS := Lib.hid hrs
  clear hG hNb hN hS hcut hfew hrs
  go_enter Tryz.func3, Tryz.ntmps3
  go_wp2_with (go_at_call 4; refine (awake_any _ (HG.out.below hb0)).mono ?_)
  rintro e w1 ⟨rfl, hb1⟩
  have hbox1 : w1.heap[w.heap.size]? = some (.cells #[.string word, .slice A1 N.length c1, .slice A2 S.length c2] 25 (0, 0)) := by
    rw [hb1.block _ (Array.getElem?_eq_some_iff.1 hbox).1]; exact hbox
  have hb01 : Below w.heap.size w w1 := hb0.trans (hb1.mono hb0.size)
  have hS1 := Lib.hid (Kd.C_below HS.out hb01)
  have HB1 := Lib.hid hb01
  have HBOX1 := Lib.hid hbox1
  have hlt1 : w.heap.size < w1.heap.size := (Array.getElem?_eq_some_iff.1 hbox1).1
  have f0 : w1.cell? ⟨w.heap.size, 0, none⟩ = some (.string word) := by rw [Lib.cell_of_heap hbox1]; rfl
  have f1 : w1.cell? ⟨w.heap.size, 1, none⟩ = some (.slice A1 N.length c1) := by rw [Lib.cell_of_heap hbox1]; rfl
  have f2 : w1.cell? ⟨w.heap.size, 2, none⟩ = some (.slice A2 S.length c2) := by rw [Lib.cell_of_heap hbox1]; rfl
  clear hbox hb0 hb1 hbox1 hb01
  obtain ⟨k, hk7, hkN, hkm⟩ : ∃ k : Nat, k ≤ 7 ∧ k ≤ N.length ∧ min (N.length : Int) 7 = (k : Int) := ⟨min N.length 7, by omega, by omega, by omega⟩
  have HKM := Lib.hid hkm
  clear hkm
  go_upto_region 3 with fail
  go_cut [] (fun wx => Cut3 w word' A1 k c1 r wx)
  case first =>
    have hkm := HKM.out
    have hcutA : ∀ W : World, Calls Tryz.prog 5 #[.string word, .int .i64 20] W fun e w' => e = .returned (.string word') ∧ Drawn0 W w' := fun W => cordellelaw02_Cut.calls word 20 word' W HCUT.out
    have HCA := Lib.hid hcutA
    have HN0 := HN
    have HN0 := HN
    have HN0 := HN
    have HN0 := HN
    have HN0 := HN
    have HN0 := HN
    have HN0 := HN
    have HN0 := HN
    have HN0 := HN
    have HN0 := HN
    have HN0 := HN
    have HN0 := HN
    have HN0 := HN
    have HN0 := HN
    have HN0 := HN
    have HN0 := HN
    have HN0 := HN
    have HN0 := HN
    clear hcutA HCUT HG HNB HN HS HRS
    have hk0 : (0 : Int) ≤ (k : Int) := by omega
    have hk1 : (k : Int) ≤ (c1 : Int) := by omega
    cases A1 with
    | none =>
      have hNn : N = [] := by
        rcases HN0.out with h | ⟨g, o, h, _⟩
        · exact List.map_eq_nil_iff.1 h
        · cases h
      subst hNn
      obtain rfl := hA1 rfl
      obtain rfl : k = 0 := Nat.le_zero.1 hkN
      clear hkm hk0 hk1 HKM
      have f1' : w1.cell? ⟨w.heap.size, 1, none⟩ = some (.slice none 0 0) := f1
      clear f1
      have f1 := f1'
      clear f1'
      have hS0 : Loads3 w.heap.size (.string word) (.slice none 0 0) (.slice A2 S.length c2) w1.drew := ⟨f0, f1, f2⟩
      refine Lk.region (S := Loads3 w.heap.size (.string word) (.slice none 0 0) (.slice A2 S.length c2)) (k := 14) (by kernel_rfl) ?_
      refine Lk.Any.take (i := 0) (v := ?v0n) rfl (by kernel_rfl) (fun _ _ _ h => h) (Or.inl ⟨by rfl, ?h0n⟩) hS0 ?r0n
      case h0n => (intro W hW; obtain ⟨g0, g1, g2⟩ := hW; go_simp; try rfl)
      try simp only [Act.put, List.setIfInBounds_toArray, List.set_cons_zero, List.set_cons_succ]
      refine Lk.Any.take (i := 1) (v := ?v1n) rfl (by kernel_rfl) (fun _ _ _ h => h) (Or.inl ⟨by rfl, ?h1n⟩) hS0 ?r1n
      case h1n => (intro W hW; obtain ⟨g0, g1, g2⟩ := hW; go_simp; try rfl)
      try simp only [Act.put, List.setIfInBounds_toArray, List.set_cons_zero, List.set_cons_succ]
      refine Lk.Any.take (i := 3) (v := ?v3n) rfl (by kernel_rfl) (fun _ _ _ h => h) (Or.inl ⟨by rfl, ?h3n⟩) hS0 ?r3n
      case h3n => (intro W hW; obtain ⟨g0, g1, g2⟩ := hW; go_simp; try rfl)
      try simp only [Act.put, List.setIfInBounds_toArray, List.set_cons_zero, List.set_cons_succ]
      refine Lk.Any.take (i := 4) (v := ?v4n) rfl (by kernel_rfl) (fun _ _ _ h => h) (Or.inl ⟨by rfl, ?h4n⟩) hS0 ?r4n
      case h4n => (intro W hW; obtain ⟨g0, g1, g2⟩ := hW; go_simp; try rfl)
      try simp only [Act.put, List.setIfInBounds_toArray, List.set_cons_zero, List.set_cons_succ]
      refine Lk.Any.take (i := 5) (v := ?v5n) rfl (by kernel_rfl) (fun _ _ _ h => h) (Or.inl ⟨by rfl, ?h5n⟩) hS0 ?r5n
      case h5n => (intro W hW; obtain ⟨g0, g1, g2⟩ := hW; go_simp; try rfl)
      try simp only [Act.put, List.setIfInBounds_toArray, List.set_cons_zero, List.set_cons_succ]
      refine Lk.Any.take (i := 6) (v := ?v6n) rfl (by kernel_rfl) (fun _ _ _ h => h) (Or.inl ⟨by rfl, ?h6n⟩) hS0 ?r6n
      case h6n => (intro W hW; obtain ⟨g0, g1, g2⟩ := hW; go_simp; try rfl)
      try simp only [Act.put, List.setIfInBounds_toArray, List.set_cons_zero, List.set_cons_succ]
      refine Lk.Any.take (i := 7) (v := ?v7n) rfl (by kernel_rfl) (fun _ _ _ h => h) (Or.inl ⟨by rfl, ?h7n⟩) hS0 ?r7n
      case h7n => (intro W hW; obtain ⟨g0, g1, g2⟩ := hW; go_simp; try rfl)
      try simp only [Act.put, List.setIfInBounds_toArray, List.set_cons_zero, List.set_cons_succ]
      refine Lk.Any.take (i := 8) (v := ?v8n) rfl (by kernel_rfl) (fun _ _ _ h => h) (Or.inl ⟨by rfl, ?h8n⟩) hS0 ?r8n
      case h8n => (intro W hW; obtain ⟨g0, g1, g2⟩ := hW; go_simp; try rfl)
      try simp only [Act.put, List.setIfInBounds_toArray, List.set_cons_zero, List.set_cons_succ]
      refine Lk.Any.take (i := 9) (v := ?v9n) rfl (by kernel_rfl) (fun _ _ _ h => h) (Or.inl ⟨by rfl, ?h9n⟩) hS0 ?r9n
      case h9n => (intro W hW; obtain ⟨g0, g1, g2⟩ := hW; go_simp; try rfl)
      try simp only [Act.put, List.setIfInBounds_toArray, List.set_cons_zero, List.set_cons_succ]
      refine Lk.Any.take (i := 10) (v := ?v10n) rfl (by kernel_rfl) (fun _ _ _ h => h) (Or.inl ⟨by rfl, ?h10n⟩) hS0 ?r10n
      case h10n => (intro W hW; obtain ⟨g0, g1, g2⟩ := hW; go_simp; try rfl)
      try simp only [Act.put, List.setIfInBounds_toArray, List.set_cons_zero, List.set_cons_succ]
      refine Lk.Any.take (i := 11) (v := ?v11n) rfl (by kernel_rfl) (fun _ _ _ h => h) (Or.inl ⟨by rfl, ?h11n⟩) hS0 ?r11n
      case h11n => (intro W hW; obtain ⟨g0, g1, g2⟩ := hW; go_simp; try rfl)
      try simp only [Act.put, List.setIfInBounds_toArray, List.set_cons_zero, List.set_cons_succ]
      refine Lk.Any.one (j := 2) (by kernel_rfl) rfl (fun K hK => ?_)
      have HK := Lib.hid hK
      clear hK
      go_simp
      go_at_call 5
      refine (HCA.out _).mono ?_
      rintro e w2 ⟨rfl, hd2⟩
      have hb2 := hd2.below
      have e0 : w2.cell? ⟨w.heap.size, 0, none⟩ = some (.string word) := (hb2.cell (p := ⟨w.heap.size, 0, none⟩) hlt1).trans f0
      have e1 : w2.cell? ⟨w.heap.size, 1, none⟩ = some (.slice none 0 0) := (hb2.cell (p := ⟨w.heap.size, 1, none⟩) hlt1).trans f1
      have e2 : w2.cell? ⟨w.heap.size, 2, none⟩ = some (.slice A2 S.length c2) := (hb2.cell (p := ⟨w.heap.size, 2, none⟩) hlt1).trans f2
      have hC2 := Kd.C_below (Kd.C_drew hS1.out) hb2
      have hlt2 : w.heap.size < w2.heap.size := Nat.lt_of_lt_of_le hlt1 hb2.size
      have HB2 := (Below.drew HB1.out).trans (hb2.mono HB1.out.size)
      have HBOX2 := (hb2.block _ hlt1).trans HBOX1.out
      refine HK.out.out _ _ (.inr ⟨e0, e1, e2⟩) ?_
      try simp only [Act.put, List.setIfInBounds_toArray, List.set_cons_zero, List.set_cons_succ]
      refine Lk.Any.one (j := 12) (by kernel_rfl) rfl (fun K hK => ?_)
      have HK2 := Lib.hid hK
      clear hK
      go_simp
      go_at_call 6
      refine (HFEW.out _ _ _ hC2 l2).mono ?_
      rintro e w3 ⟨A, c, rfl, hrc, hrd, hb3⟩
      have e3 : w3.cell? ⟨w.heap.size, 0, none⟩ = some (.string word) := (hb3.cell (p := ⟨w.heap.size, 0, none⟩) hlt2).trans e0
      have e4 : w3.cell? ⟨w.heap.size, 1, none⟩ = some (.slice none 0 0) := (hb3.cell (p := ⟨w.heap.size, 1, none⟩) hlt2).trans e1
      have e5 : w3.cell? ⟨w.heap.size, 2, none⟩ = some (.slice A2 S.length c2) := (hb3.cell (p := ⟨w.heap.size, 2, none⟩) hlt2).trans e2
      have hbox3 := (hb3.block _ hlt2).trans HBOX2
      have z0 : w3.frozen? ⟨w.heap.size, 0, none⟩ = false := Lib.frozen_of_heap hbox3 0
      have z1 : w3.frozen? ⟨w.heap.size, 1, none⟩ = false := Lib.frozen_of_heap hbox3 1
      have z2 : w3.frozen? ⟨w.heap.size, 2, none⟩ = false := Lib.frozen_of_heap hbox3 2
      have HFIN := Lib.hid (cut3_of (word := word') (A1 := none) (n1 := 0) (c1 := 0) hbox3 hrd hrc (HB2.trans (hb3.mono HB2.size)))
      refine HK2.out.out _ _ (.inr ⟨e3, e4, e5⟩) ?_
      clear e0 e1 e2 hC2 HB2 HBOX2 hd2 hb2 hrd hb3 hbox3 f0 f1 f2 HK HK2
      try simp only [Act.put, List.setIfInBounds_toArray, List.set_cons_zero, List.set_cons_succ]
      refine Lk.Any.one (j := 13) (by kernel_rfl) rfl (fun K hK => ?_)
      have HK3 := Lib.hid hK
      clear hK
      go_simp
      refine HK3.out.out _ _ (.inr ⟨e3, e4, e5⟩) ?_
      try simp only [Act.put, List.setIfInBounds_toArray, List.set_cons_zero, List.set_cons_succ]
      refine Lk.Any.one (j := 14) (by kernel_rfl) rfl (fun K hK => ?_)
      have HK4 := Lib.hid hK
      clear hK
      go_simp
      refine HK4.out.out _ _ (.inl (by kernel_rfl)) ?_
      refine Lk.Any.done (by kernel_rfl) ?_
      go_wp2_with fail
      go_meet
      exact HFIN.out
    | some ad =>
      have hS0 : Loads3 w.heap.size (.string word) (.slice (some ad) N.length c1) (.slice A2 S.length c2) w1.drew := ⟨f0, f1, f2⟩
      refine Lk.region (S := Loads3 w.heap.size (.string word) (.slice (some ad) N.length c1) (.slice A2 S.length c2)) (k := 14) (by kernel_rfl) ?_
      refine Lk.Any.take (i := 0) (v := ?v0) rfl (by kernel_rfl) (fun _ _ _ h => h) (Or.inl ⟨by rfl, ?h0⟩) hS0 ?r0
      case h0 => (intro W hW; obtain ⟨g0, g1, g2⟩ := hW; go_simp; try rfl)
      try simp only [Act.put, List.setIfInBounds_toArray, List.set_cons_zero, List.set_cons_succ]
      refine Lk.Any.take (i := 1) (v := ?v1) rfl (by kernel_rfl) (fun _ _ _ h => h) (Or.inl ⟨by rfl, ?h1⟩) hS0 ?r1
      case h1 => (intro W hW; obtain ⟨g0, g1, g2⟩ := hW; go_simp; try rfl)
      try simp only [Act.put, List.setIfInBounds_toArray, List.set_cons_zero, List.set_cons_succ]
      refine Lk.Any.take (i := 3) (v := ?v3) rfl (by kernel_rfl) (fun _ _ _ h => h) (Or.inl ⟨by rfl, ?h3⟩) hS0 ?r3
      case h3 => (intro W hW; obtain ⟨g0, g1, g2⟩ := hW; go_simp; try rfl)
      try simp only [Act.put, List.setIfInBounds_toArray, List.set_cons_zero, List.set_cons_succ]
      refine Lk.Any.take (i := 4) (v := ?v4) rfl (by kernel_rfl) (fun _ _ _ h => h) (Or.inl ⟨by rfl, ?h4⟩) hS0 ?r4
      case h4 => (intro W hW; obtain ⟨g0, g1, g2⟩ := hW; go_simp; try rfl)
      try simp only [Act.put, List.setIfInBounds_toArray, List.set_cons_zero, List.set_cons_succ]
      refine Lk.Any.take (i := 5) (v := ?v5) rfl (by kernel_rfl) (fun _ _ _ h => h) (Or.inl ⟨by rfl, ?h5⟩) hS0 ?r5
      case h5 => (intro W hW; obtain ⟨g0, g1, g2⟩ := hW; go_simp; try rfl)
      try simp only [Act.put, List.setIfInBounds_toArray, List.set_cons_zero, List.set_cons_succ]
      refine Lk.Any.take (i := 6) (v := ?v6) rfl (by kernel_rfl) (fun _ _ _ h => h) (Or.inl ⟨by rfl, ?h6⟩) hS0 ?r6
      case h6 => (intro W hW; obtain ⟨g0, g1, g2⟩ := hW; go_simp; try rfl)
      try simp only [Act.put, List.setIfInBounds_toArray, List.set_cons_zero, List.set_cons_succ]
      refine Lk.Any.take (i := 7) (v := ?v7) rfl (by kernel_rfl) (fun _ _ _ h => h) (Or.inl ⟨by rfl, ?h7⟩) hS0 ?r7
      case h7 => (intro W hW; obtain ⟨g0, g1, g2⟩ := hW; go_simp; try rfl)
      try simp only [Act.put, List.setIfInBounds_toArray, List.set_cons_zero, List.set_cons_succ]
      refine Lk.Any.take (i := 8) (v := ?v8) rfl (by kernel_rfl) (fun _ _ _ h => h) (Or.inl ⟨by rfl, ?h8⟩) hS0 ?r8
      case h8 => (intro W hW; obtain ⟨g0, g1, g2⟩ := hW; go_simp; try rfl)
      try simp only [Act.put, List.setIfInBounds_toArray, List.set_cons_zero, List.set_cons_succ]
      refine Lk.Any.take (i := 9) (v := ?v9) rfl (by kernel_rfl) (fun _ _ _ h => h) (Or.inl ⟨by rfl, ?h9⟩) hS0 ?r9
      case h9 => (intro W hW; obtain ⟨g0, g1, g2⟩ := hW; go_simp; try rfl)
      try simp only [Act.put, List.setIfInBounds_toArray, List.set_cons_zero, List.set_cons_succ]
      refine Lk.Any.take (i := 10) (v := ?v10) rfl (by kernel_rfl) (fun _ _ _ h => h) (Or.inl ⟨by rfl, ?h10⟩) hS0 ?r10
      case h10 => (intro W hW; obtain ⟨g0, g1, g2⟩ := hW; go_simp; try rfl)
      try simp only [Act.put, List.setIfInBounds_toArray, List.set_cons_zero, List.set_cons_succ]
      refine Lk.Any.take (i := 11) (v := ?v11) rfl (by kernel_rfl) (fun _ _ _ h => h) (Or.inl ⟨by rfl, ?h11⟩) hS0 ?r11
      case h11 => (intro W hW; obtain ⟨g0, g1, g2⟩ := hW; go_simp; try rfl)
      try simp only [Act.put, List.setIfInBounds_toArray, List.set_cons_zero, List.set_cons_succ]
      refine Lk.Any.one (j := 2) (by kernel_rfl) rfl (fun K hK => ?_)
      have HK := Lib.hid hK
      clear hK
      go_simp
      go_at_call 5
      refine (HCA.out _).mono ?_
      rintro e w2 ⟨rfl, hd2⟩
      have hb2 := hd2.below
      have e0 : w2.cell? ⟨w.heap.size, 0, none⟩ = some (.string word) := (hb2.cell (p := ⟨w.heap.size, 0, none⟩) hlt1).trans f0
      have e1 : w2.cell? ⟨w.heap.size, 1, none⟩ = some (.slice (some ad) N.length c1) := (hb2.cell (p := ⟨w.heap.size, 1, none⟩) hlt1).trans f1
      have e2 : w2.cell? ⟨w.heap.size, 2, none⟩ = some (.slice A2 S.length c2) := (hb2.cell (p := ⟨w.heap.size, 2, none⟩) hlt1).trans f2
      have hC2 := Kd.C_below (Kd.C_drew hS1.out) hb2
      have hlt2 : w.heap.size < w2.heap.size := Nat.lt_of_lt_of_le hlt1 hb2.size
      have HB2 := (Below.drew HB1.out).trans (hb2.mono HB1.out.size)
      have HBOX2 := (hb2.block _ hlt1).trans HBOX1.out
      refine HK.out.out _ _ (.inr ⟨e0, e1, e2⟩) ?_
      try simp only [Act.put, List.setIfInBounds_toArray, List.set_cons_zero, List.set_cons_succ]
      refine Lk.Any.one (j := 12) (by kernel_rfl) rfl (fun K hK => ?_)
      have HK2 := Lib.hid hK
      clear hK
      go_simp
      go_at_call 6
      refine (HFEW.out _ _ _ hC2 l2).mono ?_
      rintro e w3 ⟨A, c, rfl, hrc, hrd, hb3⟩
      have e3 : w3.cell? ⟨w.heap.size, 0, none⟩ = some (.string word) := (hb3.cell (p := ⟨w.heap.size, 0, none⟩) hlt2).trans e0
      have e4 : w3.cell? ⟨w.heap.size, 1, none⟩ = some (.slice (some ad) N.length c1) := (hb3.cell (p := ⟨w.heap.size, 1, none⟩) hlt2).trans e1
      have e5 : w3.cell? ⟨w.heap.size, 2, none⟩ = some (.slice A2 S.length c2) := (hb3.cell (p := ⟨w.heap.size, 2, none⟩) hlt2).trans e2
      have hbox3 := (hb3.block _ hlt2).trans HBOX2
      have z0 : w3.frozen? ⟨w.heap.size, 0, none⟩ = false := Lib.frozen_of_heap hbox3 0
      have z1 : w3.frozen? ⟨w.heap.size, 1, none⟩ = false := Lib.frozen_of_heap hbox3 1
      have z2 : w3.frozen? ⟨w.heap.size, 2, none⟩ = false := Lib.frozen_of_heap hbox3 2
      have HFIN := Lib.hid (cut3_of (word := word') (A1 := (some ad)) (n1 := k) (c1 := c1) hbox3 hrd hrc (HB2.trans (hb3.mono HB2.size)))
      refine HK2.out.out _ _ (.inr ⟨e3, e4, e5⟩) ?_
      clear e0 e1 e2 hC2 HB2 HBOX2 hd2 hb2 hrd hb3 hbox3 f0 f1 f2 HK HK2
      try simp only [Act.put, List.setIfInBounds_toArray, List.set_cons_zero, List.set_cons_succ]
      refine Lk.Any.one (j := 13) (by kernel_rfl) rfl (fun K hK => ?_)
      have HK3 := Lib.hid hK
      clear hK
      go_simp
      refine HK3.out.out _ _ (.inr ⟨e3, e4, e5⟩) ?_
      try simp only [Act.put, List.setIfInBounds_toArray, List.set_cons_zero, List.set_cons_succ]
      refine Lk.Any.one (j := 14) (by kernel_rfl) rfl (fun K hK => ?_)
      have HK4 := Lib.hid hK
      clear hK
      go_simp
      refine HK4.out.out _ _ (.inl (by kernel_rfl)) ?_
      refine Lk.Any.done (by kernel_rfl) ?_
      go_wp2_with fail
      go_meet
      exact HFIN.out
  case rest =>
    obtain ⟨wb, rfl⟩ : ∃ wb : World, wb = wc := ⟨_, rfl⟩
    obtain ⟨A, c, hrc, hbx, hrd, hbw, hAc⟩ := hcut
    have hltb : w.heap.size < wb.heap.size := (Array.getElem?_eq_some_iff.1 hbx).1
    have k0 : wb.cell? ⟨w.heap.size, 0, none⟩ = some (.string word') := by rw [Lib.cell_of_heap hbx]; rfl
    have k1 : wb.cell? ⟨w.heap.size, 1, none⟩ = some (.slice A1 k c1) := by rw [Lib.cell_of_heap hbx]; rfl
    have k2 : wb.cell? ⟨w.heap.size, 2, none⟩ = some (.slice A r.length c) := by rw [Lib.cell_of_heap hbx]; rfl
    have hrn : RdS wb wb.heap.size A1 (ints (N.take k)) := by
      have h := (HN.out.below hbw (Nat.le_refl _)).more (Nat.le_of_lt hltb)
      rcases h with h | ⟨g, o, h1, h2, h3⟩
      · left
        have : N = [] := List.map_eq_nil_iff.1 h
        rw [this]; simp [ints]
      · refine .inr ⟨g, o, h1, h2, fun j hj => ?_⟩
        have hj' : j < (ints N).length := by
          simp only [ints, List.length_map, List.length_take] at hj ⊢
          omega
        rw [h3 j hj']
        simp [ints]
    have HRN := Lib.hid hrn
    have HBX := Lib.hid hbx
    have HRD := Lib.hid hrd
    have HBW := Lib.hid hbw
    have hlN : (ints (N.take k)).length = k := by simp [ints]; omega
    have hlr : (strs r).length = r.length := by simp [strs]
    have HLN := Lib.hid hlN
    have HLR := Lib.hid hlr
    have HAC := Lib.hid hAc
    have HA1 := Lib.hid hA1
    clear f0 f1 f2 hrd hbw hS1 HB1 HBOX1 hlt1 hrn hlN hlr hAc hA1
    obtain ⟨i3, hi3, hz3, hs3, hb3⟩ := info_parts info3
    obtain ⟨i9, hi9, hz9, hs9, hb9⟩ := info_parts info9
    have hk100 : k ≤ 100 := by omega
    have hr100 : r.length ≤ 100 := by omega
    go_upto_region 4 with fail
    go_cut [3] (fun s3 wx => Made wb word' k (N.take k) r s3 wx)
    case first =>
      have hlN := HLN.out
      have hlr := HLR.out
      have hAc := HAC.out
      have hA1 := HA1.out
      go_region_held3 (fun w' => w'.cell? ⟨w.heap.size, 0, none⟩ = some (.string word') ∧ w'.cell? ⟨w.heap.size, 1, none⟩ = some (.slice A1 k c1) ∧ w'.cell? ⟨w.heap.size, 2, none⟩ = some (.slice A r.length c)) (first | (refine cells3 (x := .string word') (y := .slice A1 k c1) (z := .slice A r.length c) (t := 25) ?_; focus ((repeat (first | (with_reducible assumption) | (with_reducible refine new_at _ _ _ _ ?_; (simp; done)) | (with_reducible refine keep_alloc ?_ _) | (with_reducible refine keep_drew ?_) | (with_reducible refine keeps_at hk5 (by decide) ?_) | (with_reducible refine keeps_at hk6 (by decide) ?_))); done)) | (refine cells3 (x := .string word') (y := .slice A1 k c1) (z := .slice A r.length c) (t := 25) ?_; (refine keep_set (keep_set (keep_set ?_ ?_ _) ?_ _) ?_ _); all_goals (first | omega | (have := hb5.size; omega) | ((focus ((repeat (first | (with_reducible assumption) | (with_reducible refine new_at _ _ _ _ ?_; (simp; done)) | (with_reducible refine keep_alloc ?_ _) | (with_reducible refine keep_drew ?_) | (with_reducible refine keeps_at hk5 (by decide) ?_) | (with_reducible refine keeps_at hk6 (by decide) ?_))); done)))))) (first
        | (refine step_app (w0 := wb) (B := wb.heap.size) rfl (.tmp 25) (.tmp 27) 22 rfl 3 i3 (.int .i64 0) 8 Tryz.underlying22 hi3 hz3 hs3 hb3 rfl _ A1 k c1 (ints (N.take k)) (by rfl) (by rfl) hA1 hlN (one_ints _) hk100 (by decide) HRN.out (by repeat (first | (with_reducible assumption) | (with_reducible exact Below.refl _ _) | (with_reducible refine Below.drew ?_) | (with_reducible refine bel_alloc ?_ _))) (by first | omega | (have := hb5.size; omega)) (by repeat (first | (with_reducible assumption) | (with_reducible refine new_at _ _ _ _ ?_; (simp; done)) | (with_reducible refine keep_alloc ?_ _) | (with_reducible refine keep_drew ?_) | (with_reducible refine keeps_at hk5 (by decide) ?_) | (with_reducible refine keeps_at hk6 (by decide) ?_))) ?_; intro An5 cn5 w5 ho5 hc5 hk5 hok5 hb5)
        | (refine step_app (w0 := wb) (B := wb.heap.size) rfl (.tmp 29) (.tmp 31) 23 rfl 9 i9 (.string ⟨#[]⟩) 16 Tryz.underlying23 hi9 hz9 hs9 hb9 rfl _ A r.length c (strs r) (by rfl) (by rfl) hAc hlr (one_strs _) hr100 (by decide) HRD.out (by repeat (first | (with_reducible assumption) | (with_reducible exact Below.refl _ _) | (with_reducible refine Below.drew ?_) | (with_reducible refine bel_alloc ?_ _))) (by first | omega | (have := hb5.size; omega)) (by repeat (first | (with_reducible assumption) | (with_reducible refine new_at _ _ _ _ ?_; (simp; done)) | (with_reducible refine keep_alloc ?_ _) | (with_reducible refine keep_drew ?_) | (with_reducible refine keeps_at hk5 (by decide) ?_) | (with_reducible refine keeps_at hk6 (by decide) ?_))) ?_; intro An6 cn6 w6 ho6 hc6 hk6 hok6 hb6; have ho56 : w6.ownsRow wb.heap.size 3 1 (.slice An5 k cn5) k (ints (N.take k)) := hok6 3 _ _ _ (by decide) (by repeat (first | (with_reducible assumption) | (with_reducible refine World.ownsRow.alloc ?_ _) | (with_reducible refine World.ownsRow.drew ?_))); have hb56 := hb5.size; first | (refine with_frozen (w := w6) (g := wb.heap.size) (x := .string ⟨#[]⟩) (y := .slice none 0 0) (z := .slice none 0 0) (t := 29) ?_ ?_; (focus ((repeat (first | (with_reducible assumption) | (with_reducible refine new_at _ _ _ _ ?_; (simp; done)) | (with_reducible refine keep_alloc ?_ _) | (with_reducible refine keep_drew ?_) | (with_reducible refine keeps_at hk5 (by decide) ?_) | (with_reducible refine keeps_at hk6 (by decide) ?_))); done)); intro y3 y4 y5 y0 y1 y2) | (refine with_frozen (w := w6) (g := (wb.heap.size + 1)) (x := .string ⟨#[]⟩) (y := .slice none 0 0) (z := .slice none 0 0) (t := 29) ?_ ?_; (focus ((repeat (first | (with_reducible assumption) | (with_reducible refine new_at _ _ _ _ ?_; (simp; done)) | (with_reducible refine keep_alloc ?_ _) | (with_reducible refine keep_drew ?_) | (with_reducible refine keeps_at hk5 (by decide) ?_) | (with_reducible refine keeps_at hk6 (by decide) ?_))); done)); intro y3 y4 y5 y0 y1 y2) | (refine with_frozen (w := w6) (g := (wb.heap.size + 2)) (x := .string ⟨#[]⟩) (y := .slice none 0 0) (z := .slice none 0 0) (t := 29) ?_ ?_; (focus ((repeat (first | (with_reducible assumption) | (with_reducible refine new_at _ _ _ _ ?_; (simp; done)) | (with_reducible refine keep_alloc ?_ _) | (with_reducible refine keep_drew ?_) | (with_reducible refine keeps_at hk5 (by decide) ?_) | (with_reducible refine keeps_at hk6 (by decide) ?_))); done)); intro y3 y4 y5 y0 y1 y2) | (refine with_frozen (w := w6) (g := w5.heap.size) (x := .string ⟨#[]⟩) (y := .slice none 0 0) (z := .slice none 0 0) (t := 29) ?_ ?_; (focus ((repeat (first | (with_reducible assumption) | (with_reducible refine new_at _ _ _ _ ?_; (simp; done)) | (with_reducible refine keep_alloc ?_ _) | (with_reducible refine keep_drew ?_) | (with_reducible refine keeps_at hk5 (by decide) ?_) | (with_reducible refine keeps_at hk6 (by decide) ?_))); done)); intro y3 y4 y5 y0 y1 y2) | (refine with_frozen (w := w6) (g := (w5.heap.size + 1)) (x := .string ⟨#[]⟩) (y := .slice none 0 0) (z := .slice none 0 0) (t := 29) ?_ ?_; (focus ((repeat (first | (with_reducible assumption) | (with_reducible refine new_at _ _ _ _ ?_; (simp; done)) | (with_reducible refine keep_alloc ?_ _) | (with_reducible refine keep_drew ?_) | (with_reducible refine keeps_at hk5 (by decide) ?_) | (with_reducible refine keeps_at hk6 (by decide) ?_))); done)); intro y3 y4 y5 y0 y1 y2) | skip))
      all_goals go_wp2_with fail
      all_goals go_meet
      all_goals first
        | (with_reducible refine made_alloc ?_ ?_ ?_ hc5 hc6 ?_; (focus (simp; done)); (focus ((repeat (first | (with_reducible assumption) | (with_reducible refine World.ownsRow.alloc ?_ _) | (with_reducible refine World.ownsRow.drew ?_))); done)); (focus ((repeat (first | (with_reducible assumption) | (with_reducible refine World.ownsRow.alloc ?_ _) | (with_reducible refine World.ownsRow.drew ?_))); done)); (focus ((repeat (first | (with_reducible assumption) | (with_reducible exact Below.refl _ _) | (with_reducible refine Below.drew ?_) | (with_reducible refine bel_alloc ?_ _))); done)))
        | (with_reducible refine made_set (x := .string ⟨#[]⟩) (y := .slice none 0 0) (z := .slice none 0 0) ?_ ?_ ?_ ?_ hc5 hc6 ?_; (focus ((repeat (first | (with_reducible assumption) | (with_reducible refine new_at _ _ _ _ ?_; (simp; done)) | (with_reducible refine keep_alloc ?_ _) | (with_reducible refine keep_drew ?_) | (with_reducible refine keeps_at hk5 (by decide) ?_) | (with_reducible refine keeps_at hk6 (by decide) ?_))); done)); (focus (first | omega | (have := hb5.size; omega))); (focus ((repeat (first | (with_reducible assumption) | (with_reducible refine World.ownsRow.alloc ?_ _) | (with_reducible refine World.ownsRow.drew ?_))); done)); (focus ((repeat (first | (with_reducible assumption) | (with_reducible refine World.ownsRow.alloc ?_ _) | (with_reducible refine World.ownsRow.drew ?_))); done)); (focus ((repeat (first | (with_reducible assumption) | (with_reducible exact Below.refl _ _) | (with_reducible refine Below.drew ?_) | (with_reducible refine bel_alloc ?_ _))); done)))
        | trace_state
    case rest =>
      obtain ⟨g, An, cn, As, cs, rfl, hgx, hn1, hn2, rdN, rdS, hge, hbb⟩ := hcut
      have hlk : (N.take k).length = k := by rw [List.length_take]; omega
      have hyx : wc.heap[w.heap.size]? = some (.cells #[.string word', .slice A1 k c1, .slice A r.length c] 25 (0, 0)) := (hbb.block _ hltb).trans HBX.out
      have hbw' : Below w.heap.size w wc := HBW.out.trans (hbb.mono HBW.out.size)
      have hNB : ∀ n ∈ N.take k, -9223372036854775808 ≤ n ∧ n ≤ 9223372036854775807 := fun n hn => HNB.out n (List.mem_of_mem_take hn)
      have hSB : ∀ t ∈ r, t.size ≤ 100000 := fun t ht => by have := HRS.out t ht; omega
      have hTX : ∀ W : World, Below wc.heap.size wc W → Calls Tryz.prog 9 #[.agg #[.string word', .slice An k cn, .slice As r.length cs]] W (PostTx ⟨(textF word' (N.take k) r).toArray⟩ W) := by
        intro W hW
        have h := text_any word' (N.take k) r An As cn cs W (HG.out.below (hbw'.trans (hW.mono hbw'.size))) ((rdN.below hW (Nat.le_refl _)).more hW.size) ((rdS.below hW (Nat.le_refl _)).more hW.size) (by omega) hn2 (by omega) (by omega) hNB (by omega) hSB
        rw [hlk] at h
        exact h
      have hTY : ∀ W : World, Below wc.heap.size wc W → Calls Tryz.prog 10 #[.agg #[.string word', .slice A1 k c1, .slice A r.length c]] W (PostTx ⟨(textF word' (N.take k) r).toArray⟩ W) := by
        intro W hW
        have hbW : Below wb.heap.size wb W := hbb.trans (hW.mono hbb.size)
        have h := rtext_any word' (N.take k) r A1 A c1 c W (HG.out.below (hbw'.trans (hW.mono hbw'.size))) ((HRN.out.below hbW (Nat.le_refl _)).more hbW.size) ((HRD.out.below hbW (Nat.le_refl _)).more hbW.size) (by omega) hrc (by omega) (by omega) hNB (by omega) hSB
        rw [hlk] at h
        refine h.mono ?_
        rintro e w' ⟨he, hb⟩
        refine ⟨?_, hb⟩
        rw [he, textF_ref]; rfl
      generalize (⟨(textF word' (N.take k) r).toArray⟩ : ByteArray) = tb at hTX hTY
      have HTX := Lib.hid hTX
      have HTY := Lib.hid hTY
      have HGX := Lib.hid hgx
      have HYX := Lib.hid hyx
      have HBC := Lib.hid hbw'
      clear hTX hTY hgx hyx hbw' hNB hSB hlk rdN rdS hbb HBX HBW HRN HRD HLN HLR HAC HA1 HN HNB HS HCUT HFEW HRS HG HKM hbx k0 k1 k2 hge hn1 hn2 hrc
      go_wp2_with (go_at_call 7; refine (words_any _).mono ?_)
      rintro e w7 ⟨A4, c4, rfl, hr4, hb7⟩
      have HR4 := Lib.hid hr4
      have HB7 := Lib.hid hb7
      clear hr4 hb7
      go_wp2_with (go_at_call 8; refine (refwords_any _).mono ?_)
      rintro e w8 ⟨A5, rfl, hr5, hb8⟩
      have HB8 := Lib.hid (HB7.out.trans (hb8.mono HB7.out.size))
      obtain ⟨g4, o4, hA4, hg4, hcw4⟩ : ∃ g4 o4, A4 = some ⟨g4, o4, none⟩ ∧ g4 < w8.heap.size ∧ ∀ j (h : j < 18), w8.cell? ⟨g4, o4 + j, none⟩ = some (.string (wordsB[j]'h)) := by
        rcases (HR4.out.below hb8 (Nat.le_refl _)) with h | ⟨g, o, h1, h2, h3⟩
        · cases h
        · exact ⟨g, o, h1, Nat.lt_of_lt_of_le h2 hb8.size, words_at h3⟩
      obtain ⟨g5, o5, hA5, hg5, hcw5⟩ : ∃ g5 o5, A5 = some ⟨g5, o5, none⟩ ∧ g5 < w8.heap.size ∧ ∀ j (h : j < 18), w8.cell? ⟨g5, o5 + j, none⟩ = some (.string (wordsB[j]'h)) := by
        rcases hr5 with h | ⟨g, o, h1, h2, h3⟩
        · cases h
        · exact ⟨g, o, h1, h2, words_at h3⟩
      subst hA4 hA5
      have HC4 := Lib.hid hcw4
      have HC5 := Lib.hid hcw5
      clear hr5 hb8 hcw4 hcw5 HR4 HB7
      go_wp2
      go_loopw [43] (fun cv wr => ∃ j : Nat, j ≤ 18 ∧ cv = .int .i64 j ∧ Below w8.heap.size w8 wr) (fun cv _ => 18 - (intOf cv).toNat)
      case atStart => exact ⟨0, by omega, rfl, Below.refl _ _⟩
      case round =>
        obtain ⟨j, hj, rfl, hbr⟩ := hrel
        by_cases hjl : j < 18
        · have hjz : (j : Int) < 18 := by omega
          have e4 : wr.cell? ⟨g4, o4 + j, none⟩ = some (.string (wordsB[j]'hjl)) := (hbr.cell (p := ⟨g4, o4 + j, none⟩) hg4).trans (HC4.out j hjl)
          have e5 : wr.cell? ⟨g5, o5 + j, none⟩ = some (.string (wordsB[j]'hjl)) := (hbr.cell (p := ⟨g5, o5 + j, none⟩) hg5).trans (HC5.out j hjl)
          generalize wordsB[j]'hjl = t at e4 e5
          go_wp2
          go_quiet (fail)
          go_wp2
          go_roundw
          case rel => exact ⟨j + 1, by omega, by go_num, below_drewN hbr nq⟩
          case measure => simp [intOf]; omega
        · have hjz : ¬ (j : Int) < 18 := by omega
          have hB8r : Below wc.heap.size wc wr := HB8.out.trans (hbr.mono HB8.out.size)
          have hgr : wr.heap[g]? = some (.cells #[.string word', .slice An k cn, .slice As r.length cs] 29 (0, 0)) := (hB8r.block _ (Array.getElem?_eq_some_iff.1 HGX.out).1).trans HGX.out
          have hyr : wr.heap[w.heap.size]? = some (.cells #[.string word', .slice A1 k c1, .slice A r.length c] 25 (0, 0)) := (hB8r.block _ (Array.getElem?_eq_some_iff.1 HYX.out).1).trans HYX.out
          have x6 := cells6 hgr hyr
          obtain ⟨x0, x1, x2, y0, y1, y2⟩ := x6
          have HGR := Lib.hid hgr
          have HYR := Lib.hid hyr
          have HBR := Lib.hid hB8r
          clear hgr hyr hB8r hbr hj hg4 hg5 HC4 HC5
          go_wp2
          go_region_held3 (fun w' => w'.cell? ⟨g, 0, none⟩ = some (.string word') ∧ w'.cell? ⟨g, 1, none⟩ = some (.slice An k cn) ∧ w'.cell? ⟨g, 2, none⟩ = some (.slice As r.length cs) ∧ w'.cell? ⟨w.heap.size, 0, none⟩ = some (.string word') ∧ w'.cell? ⟨w.heap.size, 1, none⟩ = some (.slice A1 k c1) ∧ w'.cell? ⟨w.heap.size, 2, none⟩ = some (.slice A r.length c))
            (first | exact cells6 HGR.out HYR.out | exact cells6 HGX9.out HYX9.out | exact cells6 HGXz.out HYXz.out)
            (first
            | (go_at_call 9; refine (HTX.out _ (Below.drew HBR.out)).mono ?_; rintro e w9 ⟨rfl, hb9⟩; have HGX9 := Lib.hid ((hb9.block g (Array.getElem?_eq_some_iff.1 HGR.out).1).trans HGR.out); have HYX9 := Lib.hid ((hb9.block w.heap.size (Array.getElem?_eq_some_iff.1 HYR.out).1).trans HYR.out); have HBR9 := Lib.hid ((Below.drew HBR.out).trans (hb9.mono HBR.out.size)))
            | (go_at_call 10; refine (HTY.out _ HBR9.out).mono ?_; rintro e wz ⟨rfl, hbz⟩; have HGXz := Lib.hid ((hbz.block g (Array.getElem?_eq_some_iff.1 HGX9.out).1).trans HGX9.out); have HYXz := Lib.hid ((hbz.block w.heap.size (Array.getElem?_eq_some_iff.1 HYX9.out).1).trans HYX9.out); have HBRz := Lib.hid (HBR9.out.trans (hbz.mono HBR9.out.size))))
          have hb0z : Below w.heap.size w wz := HBC.out.trans (HBRz.out.mono HBC.out.size)
          go_wp2
          exact bodyPost_ret (v := .bool true) (by simp [results, Tryz.results3, go_sem]) rfl ⟨rfl, hb0z⟩
end Go.Proofs.YtddfpnljkaodcaaGreatDoor
