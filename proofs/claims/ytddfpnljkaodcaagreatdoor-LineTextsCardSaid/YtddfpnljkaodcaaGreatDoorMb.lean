/-
  Layer 31 (line): the document's text of a step, walked.
-/
import Derived.Test.YtddfpnljkaodcaaGreatDoorMa
import Derived.Test.YtddfpnljkaodcaaGreatDoorZt
namespace Go.Proofs.YtddfpnljkaodcaaGreatDoor
open Go.RowKit PLineTexts Dp Go.Proofs.YtddfpnljkaodcaaGreatDoorW.PrintWords

/-- what the document's loop holds, i kinds on -/
structure TR (w : World) (word : ByteArray) (N : List Int) (S : List ByteArray) (A1 : Option Addr) (c1 : Nat) (A2 : Option Addr) (c2 : Nat) (f : List Nat) (wr : World) (i n k : Nat) (s : ByteArray) (out : List (List UInt8)) : Prop where
  hi : i ≤ f.length
  hn : n ≤ N.length
  hk : k ≤ S.length
  rel : Tx.putF f N (S.map dl) = (Tx.putF (f.drop i) (N.drop n) ((S.map dl).drop k)).map (out ++ ·)
  st : dl s = Lib.join (dl word :: out) [32]
  sl : s.size ≤ 100000 + i * 1000000
  box : wr.heap[w.heap.size]? = some (.cells #[.string word, .slice A1 N.length c1, .slice A2 S.length c2] 25 (0, 0))
  bl : Below w.heap.size w wr

theorem join_snoc (x : List UInt8) (out : List (List UInt8)) (p : List UInt8) : Lib.join (x :: (out ++ [p])) [32] = Lib.join (x :: out) [32] ++ (32 :: p) := by
  rw [Lib.join_cons, Lib.join_cons]
  simp [Lib.joinTail]
/-- the codes of a form, as a text -/
theorem codes_size (f : List Nat) : (⟨(f.map code).toArray⟩ : ByteArray).size = f.length := by simp [ByteArray.size]
theorem codes_get (f : List Nat) (i : Nat) (h : i < (⟨(f.map code).toArray⟩ : ByteArray).size) : (⟨(f.map code).toArray⟩ : ByteArray)[i] = code (f[i]'(by rw [codes_size] at h; exact h)) := by
  show ((f.map code).toArray)[i]'_ = _
  simp

theorem TR.step {w : World} {word : ByteArray} {N : List Int} {S : List ByteArray} {A1 A2 : Option Addr} {c1 c2 : Nat} {f : List Nat} {wr wr' : World} {i n k : Nat} {s s' : ByteArray} {out : List (List UInt8)} (h : TR w word N S A1 c1 A2 c2 f wr i n k s out) (p : List UInt8) (n2 k2 : Nat)
    (hr : Tx.putF (f.drop i) (N.drop n) ((S.map dl).drop k) = (Tx.putF (f.drop (i + 1)) (N.drop n2) ((S.map dl).drop k2)).map (p :: ·)) (hi : i < f.length) (hn : n2 ≤ N.length) (hk : k2 ≤ S.length) (hs : dl s' = dl s ++ (32 :: p)) (hp : p.length < 1000000)
    (hb : Below wr.heap.size wr wr') : TR w word N S A1 c1 A2 c2 f wr' (i + 1) n2 k2 s' (out ++ [p]) := by
  have hlt := (Array.getElem?_eq_some_iff.1 h.box).1
  refine ⟨hi, hn, hk, ?_, ?_, ?_, ?_, ?_⟩
  · rw [h.rel, hr]
    cases Tx.putF (f.drop (i + 1)) (N.drop n2) ((S.map dl).drop k2) <;> simp
  · rw [hs, h.st, join_snoc]
  · have e := congrArg List.length hs
    simp only [dl_len, List.length_append, List.length_cons] at e
    have := h.sl
    omega
  · rw [hb.block _ hlt]; exact h.box
  · exact h.bl.trans (hb.mono h.bl.size)
theorem TR.fail {w : World} {word : ByteArray} {N : List Int} {S : List ByteArray} {A1 A2 : Option Addr} {c1 c2 : Nat} {f : List Nat} {wr : World} {i n k : Nat} {s : ByteArray} {out : List (List UInt8)} (h : TR w word N S A1 c1 A2 c2 f wr i n k s out)
    (hf : Pl.formF (dl word) = some f) (hr : Tx.putF (f.drop i) (N.drop n) ((S.map dl).drop k) = none) : Tx.refF (dl word) N (S.map dl) = [] := by
  rw [Tx.refF, hf]
  simp only
  rw [h.rel, hr]
  rfl
theorem TR.done {w : World} {word : ByteArray} {N : List Int} {S : List ByteArray} {A1 A2 : Option Addr} {c1 c2 : Nat} {f : List Nat} {wr : World} {s : ByteArray} {out : List (List UInt8)} (h : TR w word N S A1 c1 A2 c2 f wr f.length N.length S.length s out)
    (hf : Pl.formF (dl word) = some f) : Tx.refF (dl word) N (S.map dl) = if s.size ≤ 4000 then dl s else [] := by
  have hr := h.rel
  rw [List.drop_of_length_le (Nat.le_refl _), List.drop_of_length_le (Nat.le_refl _), List.drop_of_length_le (by simp)] at hr
  rw [Tx.refF, hf]
  simp only
  rw [hr]
  simp only [Tx.putF, Option.map_some, List.append_nil]
  rw [← h.st, dl_len]
theorem TR.over {w : World} {word : ByteArray} {N : List Int} {S : List ByteArray} {A1 A2 : Option Addr} {c1 c2 : Nat} {f : List Nat} {wr : World} {n k : Nat} {s : ByteArray} {out : List (List UInt8)} (h : TR w word N S A1 c1 A2 c2 f wr f.length n k s out)
    (hf : Pl.formF (dl word) = some f) (hne : n ≠ N.length ∨ k ≠ S.length) : Tx.refF (dl word) N (S.map dl) = [] := by
  refine h.fail hf ?_
  rw [List.drop_of_length_le (Nat.le_refl _)]
  have h1 := h.hn
  have h2 := h.hk
  by_cases hn : n = N.length
  · have hk : k < S.length := by omega
    rw [hn, List.drop_of_length_le (Nat.le_refl N.length), List.drop_eq_getElem_cons (by simpa using hk)]
    rfl
  · rw [List.drop_eq_getElem_cons (show n < N.length by omega)]
    rfl
theorem hex_piece : ∀ n : Fin 16, dl ((⟨#[48, 49, 50, 51, 52, 53, 54, 55, 56, 57, 97, 98, 99, 100, 101, 102]⟩ : ByteArray).extract n.val (n.val + 1)) = [hexC n.val] := by decide +kernel

theorem hex_sl (q : Nat) (hq : q < 16) : ∃ p : ByteArray, (∀ v : World, (Instr.slice 9 (.string ⟨#[48, 49, 50, 51, 52, 53, 54, 55, 56, 57, 97, 98, 99, 100, 101, 102]⟩) (some (.int .i64 (q : Int))) (some (.int .i64 ((q : Int) + 1))) none).run Tryz.prog v = .ok (.string p) v) ∧ dl p = [hexC q] := by
  refine ⟨(⟨#[48, 49, 50, 51, 52, 53, 54, 55, 56, 57, 97, 98, 99, 100, 101, 102]⟩ : ByteArray).extract (q : Int).toNat ((q : Int) + 1).toNat, fun v => ?_, ?_⟩
  · exact run_slice_string v 9 ⟨#[48, 49, 50, 51, 52, 53, 54, 55, 56, 57, 97, 98, 99, 100, 101, 102]⟩ .i64 .i64 q (q + 1) Tryz.underlying9 (by omega) (by omega) (show (q : Int) + 1 ≤ 16 by omega)
  · exact hex_piece ⟨q, hq⟩
theorem dl_app (a b : ByteArray) : dl (a ++ b) = dl a ++ dl b := by simp [dl]
theorem hexF_pos (t : ByteArray) (h : 0 < t.size) : hexF (dl t) = hexL (dl t) := by
  unfold hexF
  rw [if_neg]
  intro e
  have h0 : (dl t).length = 0 := by rw [e]; rfl
  rw [dl_len] at h0; omega
def PostRT (word : ByteArray) (N : List Int) (S : List ByteArray) (w : World) (e : Ending) (w' : World) : Prop :=
  e = .returned (.string ⟨(Tx.refF (dl word) N (S.map dl)).toArray⟩) ∧ Below w.heap.size w w'

set_option maxHeartbeats 4000000 in
set_option maxRecDepth 100000 in
theorem rtext_any (word : ByteArray) (N : List Int) (S : List ByteArray) (A1 A2 : Option Addr) (c1 c2 : Nat) (w : World) (hG : Glob w) (hN : RdS w w.heap.size A1 (ints N)) (hS : RdS w w.heap.size A2 (strs S)) (_hc1 : N.length ≤ c1) (_hc2 : S.length ≤ c2)
    (hNl : N.length ≤ 100000) (hSl : S.length ≤ 100000) (hNb : ∀ n ∈ N, -9223372036854775808 ≤ n ∧ n ≤ 9223372036854775807) (hw : word.size ≤ 100000) (hSb : ∀ t ∈ S, t.size ≤ 100000) :
    Calls Tryz.prog 10 #[.agg #[.string word, .slice A1 N.length c1, .slice A2 S.length c2]] w (PostRT word N S w) := by
  have hbox := heap_alloc_new w (.cells #[.string word, .slice A1 N.length c1, .slice A2 S.length c2] 25)
  have hb0 : Below w.heap.size w (w.alloc (.cells #[.string word, .slice A1 N.length c1, .slice A2 S.length c2] 25)) := (Below.refl _ w).alloc (Nat.le_refl _) _
  have HG := Lib.hid hG
  have HNB := Lib.hid hNb
  have HSB := Lib.hid hSb
  have HN := Lib.hid hN
  have HS := Lib.hid hS
  clear hG hNb hSb hN hS
  generalize hW : w.alloc (.cells #[.string word, .slice A1 N.length c1, .slice A2 S.length c2] 25) = W at hbox hb0
  have f0 : W.cell? ⟨w.heap.size, 0, none⟩ = some (.string word) := by rw [Lib.cell_of_heap hbox]; rfl
  have f1 : W.cell? ⟨w.heap.size, 1, none⟩ = some (.slice A1 N.length c1) := by rw [Lib.cell_of_heap hbox]; rfl
  have f2 : W.cell? ⟨w.heap.size, 2, none⟩ = some (.slice A2 S.length c2) := by rw [Lib.cell_of_heap hbox]; rfl
  go_enter Tryz.func10, Tryz.ntmps10
  cases hf : Pl.formF (dl word) with
  | none =>
    have hform := form_f word 0
    rw [hf] at hform
    have HF := Lib.hid hform
    have HFN := Lib.hid hf
    clear hf hform
    go_wp2_with (go_at_call 21; refine (cordelleref31_Form.calls 3 word _ _ _ HF.out).mono ?_)
    rintro e w1 rfl hd
    have hd' := Drawn0.below hd
    have hb1 := hb0.trans (hd'.mono hb0.size)
    go_wp2
    refine bodyPost_ret (v := .string ⟨#[]⟩) (by simp [results, Tryz.results10, go_sem]) rfl ⟨?_, hb1⟩
    rw [Tx.refF, HFN.out]
  | some f =>
    obtain ⟨_, _, hf6, hf2⟩ := Tx.form_fine hf
    have hform := form_f word 0
    rw [hf] at hform
    have hsz := codes_size f
    have hget : ∀ (i : Nat) (h : i < f.length) (hb : i < (⟨(f.map code).toArray⟩ : ByteArray).size), (⟨(f.map code).toArray⟩ : ByteArray)[i]'hb = code f[i] := fun i _ hb => codes_get f i hb
    simp only at hform
    generalize (⟨(f.map code).toArray⟩ : ByteArray) = fb at hform hsz hget
    have HF := Lib.hid hform
    have HFN := Lib.hid hf
    have HF2 := Lib.hid hf2
    have HGET := Lib.hid hget
    clear hf hform hf2 hget
    go_wp2_with (go_at_call 21; refine (cordelleref31_Form.calls 3 word _ _ _ HF.out).mono ?_)
    rintro e w1 ⟨rfl, hd⟩
    have hd' := Drawn0.below hd
    have hb1 := hb0.trans (hd'.mono hb0.size)
    have hbox1 : w1.heap[w.heap.size]? = some (.cells #[.string word, .slice A1 N.length c1, .slice A2 S.length c2] 25 (0, 0)) := by
      rw [hd'.block _ (Array.getElem?_eq_some_iff.1 hbox).1]; exact hbox
    have f3 : w1.cell? ⟨w.heap.size, 0, none⟩ = some (.string word) := by rw [Lib.cell_of_heap hbox1]; rfl
    have hT : TR w word N S A1 c1 A2 c2 f w1 0 0 0 word [] := ⟨Nat.zero_le _, Nat.zero_le _, Nat.zero_le _, by simp, by rw [Lib.join_one], by omega, hbox1, hb1⟩
    clear hd hd' hb0 hbox hbox1 hW f0 f1 f2 hb1
    go_wp2
    clear f3
    go_loopw [5, 6, 7, 8] (fun s n k i wr => ∃ (s' : ByteArray) (n' k' i' : Nat) (out : List (List UInt8)), s = .string s' ∧ n = .int .i64 n' ∧ k = .int .i64 k' ∧ i = .int .i64 i' ∧ TR w word N S A1 c1 A2 c2 f wr i' n' k' s' out)
      (fun _ _ _ i _ => f.length - (intOf i).toNat)
    case atStart => exact ⟨word, 0, 0, 0, [], rfl, rfl, rfl, rfl, hT⟩
    case round =>
      obtain ⟨s, n, k, i, out, rfl, rfl, rfl, rfl, h⟩ := hrel
      clear hT
      have b0 : wr.cell? ⟨w.heap.size, 0, none⟩ = some (.string word) := by rw [Lib.cell_of_heap h.box]; rfl
      have b1 : wr.cell? ⟨w.heap.size, 1, none⟩ = some (.slice A1 N.length c1) := by rw [Lib.cell_of_heap h.box]; rfl
      have b2 : wr.cell? ⟨w.heap.size, 2, none⟩ = some (.slice A2 S.length c2) := by rw [Lib.cell_of_heap h.box]; rfl
      have hn := h.hn
      have hk := h.hk
      have hbs := h.bl.size
      have hbs2 : w.heap.size < wr.heap.size := (Array.getElem?_eq_some_iff.1 h.box).1
      have hsl : s.size ≤ 7000000 := by have := h.sl; have := h.hi; omega
      have HT := Lib.hid h
      clear h
      by_cases hlt : i < f.length
      · have hltb : i < fb.size := by omega
        have hltz : (i : Int) < (fb.size : Int) := by omega
        have hcode := HGET.out i hlt hltb
        have hle : f[i] ≤ 2 := HF2.out _ (List.getElem_mem _)
        have hdrop : f.drop i = f[i] :: f.drop (i + 1) := List.drop_eq_getElem_cons hlt
        have HDROP := Lib.hid hdrop
        clear hdrop
        generalize f[i] = c at hle hcode HDROP
        rcases (by omega : c = 0 ∨ c = 1 ∨ c = 2) with rfl | rfl | rfl
        · have hcv : fb[i] = 110 := hcode
          clear hcode hle
          by_cases hnl : n < N.length
          · have hnlz : (n : Int) < (N.length : Int) := by omega
            obtain ⟨g, o, hA1, hgB, hcell⟩ : ∃ g o, A1 = some ⟨g, o, none⟩ ∧ g < w.heap.size ∧ w.cell? ⟨g, o + n, none⟩ = some (.int .i64 N[n]) := by
              rcases HN.out with h0 | ⟨g, o, h1, h2, h3⟩
              · exfalso; have e := congrArg List.length h0; rw [ints, List.length_map] at e; simp only [List.length_nil] at e; omega
              · exact ⟨g, o, h1, h2, by have := h3 n (by simpa [ints] using hnl); simpa [ints] using this⟩
            subst hA1
            have hct : wr.cell? ⟨g, o + n, none⟩ = some (.int .i64 N[n]) := (HT.out.bl.cell (p := ⟨g, o + n, none⟩) hgB).trans hcell
            have hz := HNB.out N[n] (List.getElem_mem _)
            have HND := Lib.hid (show N.drop n = N[n] :: N.drop (n + 1) from List.drop_eq_getElem_cons hnl)
            generalize N[n] = z at hct hz HND
            obtain ⟨hz1, hz2⟩ := hz
            have hgr : g < wr.heap.size := by omega
            clear hcell
            by_cases hz0 : z < 0
            · go_wp2
              refine bodyPost_ret (v := .string ⟨#[]⟩) (by simp [results, Tryz.results10, go_sem]) rfl ⟨?_, HT.out.bl⟩
              rw [HT.out.fail HFN.out (by rw [HDROP.out, HND.out, Tx.putF, if_neg (by omega)])]
            · by_cases hzm : 4294967295 < z
              · go_wp2
                refine bodyPost_ret (v := .string ⟨#[]⟩) (by simp [results, Tryz.results10, go_sem]) rfl ⟨?_, HT.out.bl⟩
                rw [HT.out.fail HFN.out (by rw [HDROP.out, HND.out, Tx.putF, if_neg (by omega)])]
              · have hG1 := HG.out.below HT.out.bl
                have hcall := Lib.hid (itoa_any z hz1 hz2 wr hG1)
                clear hG1
                have HCT := Lib.hid hct
                have hil : (Lib.itoa z).length ≤ 299999 := by
                  have h2 : (Lib.itoa z).toArray.size ≤ 299999 := itoa_size z hz1 hz2
                  simpa using h2
                go_wp2_with (go_at_call 17; refine (hcall.out).mono ?_)
                rintro e w1 rfl hb1
                have HB1 := Lib.hid hb1
                clear hb1 hct
                go_wp2
                go_roundw
                case rel =>
                  refine ⟨_, n + 1, k, i + 1, out ++ [Lib.itoa z], rfl, by go_num, rfl, by go_num, HT.out.step (Lib.itoa z) (n + 1) k ?_ hlt (by omega) hk ?_ ?_ HB1.out⟩
                  · rw [HDROP.out, HND.out, Tx.putF, if_pos ⟨by omega, by omega⟩]
                  · rw [dl_app, dl_app]; rfl
                  · omega
                case measure => simp [intOf]; omega
          · have hnz : ¬ (n : Int) < (N.length : Int) := by omega
            have hnz2 : (N.length : Int) ≤ (n : Int) := by omega
            go_wp2
            refine bodyPost_ret (v := .string ⟨#[]⟩) (by simp [results, Tryz.results10, go_sem]) rfl ⟨?_, HT.out.bl⟩
            rw [HT.out.fail HFN.out (by
              rw [HDROP.out, List.drop_of_length_le (by omega : N.length ≤ n)]; first | rfl | simp [Tx.putF])]
        · have hcv : fb[i] = 119 := hcode
          clear hcode hle
          by_cases hnl : n < N.length
          · have hnlz : (n : Int) < (N.length : Int) := by omega
            obtain ⟨g, o, hA1, hgB, hcell⟩ : ∃ g o, A1 = some ⟨g, o, none⟩ ∧ g < w.heap.size ∧ w.cell? ⟨g, o + n, none⟩ = some (.int .i64 N[n]) := by
              rcases HN.out with h0 | ⟨g, o, h1, h2, h3⟩
              · exfalso; have e := congrArg List.length h0; rw [ints, List.length_map] at e; simp only [List.length_nil] at e; omega
              · exact ⟨g, o, h1, h2, by have := h3 n (by simpa [ints] using hnl); simpa [ints] using this⟩
            subst hA1
            have hct : wr.cell? ⟨g, o + n, none⟩ = some (.int .i64 N[n]) := (HT.out.bl.cell (p := ⟨g, o + n, none⟩) hgB).trans hcell
            have hz := HNB.out N[n] (List.getElem_mem _)
            have HND := Lib.hid (show N.drop n = N[n] :: N.drop (n + 1) from List.drop_eq_getElem_cons hnl)
            generalize N[n] = z at hct hz HND
            obtain ⟨hz1, hz2⟩ := hz
            have hgr : g < wr.heap.size := by omega
            clear hcell
            by_cases hz0 : z < 0
            · go_wp2
              refine bodyPost_ret (v := .string ⟨#[]⟩) (by simp [results, Tryz.results10, go_sem]) rfl ⟨?_, HT.out.bl⟩
              rw [HT.out.fail HFN.out (by rw [HDROP.out, HND.out, Tx.putF, if_neg (by omega)])]
            · by_cases hzm : 4294967295 < z
              · go_wp2
                refine bodyPost_ret (v := .string ⟨#[]⟩) (by simp [results, Tryz.results10, go_sem]) rfl ⟨?_, HT.out.bl⟩
                rw [HT.out.fail HFN.out (by rw [HDROP.out, HND.out, Tx.putF, if_neg (by omega)])]
              · by_cases hz3 : 1 < z
                · go_wp2
                  refine bodyPost_ret (v := .string ⟨#[]⟩) (by simp [results, Tryz.results10, go_sem]) rfl ⟨?_, HT.out.bl⟩
                  rw [HT.out.fail HFN.out (by rw [HDROP.out, HND.out, Tx.putF, if_neg (by omega)])]
                · rcases (by omega : z = 0 ∨ z = 1) with hzz | hzz
                  · subst hzz
                    go_wp2
                    go_roundw
                    case rel =>
                      refine ⟨_, n + 1, k, i + 1, out ++ [Pl.there], rfl, by go_num, rfl, by go_num, HT.out.step Pl.there (n + 1) k ?_ hlt (by omega) hk ?_ (by decide) ((Below.refl _ _).alloc (Nat.le_refl _) _)⟩
                      · rw [HDROP.out, HND.out, Tx.putF, if_pos ⟨by omega, by omega⟩]; rfl
                      · rw [dl_app]; rfl
                    case measure => simp [intOf]; omega
                  · subst hzz
                    go_wp2
                    go_roundw
                    case rel =>
                      refine ⟨_, n + 1, k, i + 1, out ++ [Pl.back], rfl, by go_num, rfl, by go_num, HT.out.step Pl.back (n + 1) k ?_ hlt (by omega) hk ?_ (by decide) ((Below.refl _ _).alloc (Nat.le_refl _) _)⟩
                      · rw [HDROP.out, HND.out, Tx.putF, if_pos ⟨by omega, by omega⟩]; rfl
                      · rw [dl_app]; rfl
                    case measure => simp [intOf]; omega
          · have hnz : ¬ (n : Int) < (N.length : Int) := by omega
            have hnz2 : (N.length : Int) ≤ (n : Int) := by omega
            go_wp2
            refine bodyPost_ret (v := .string ⟨#[]⟩) (by simp [results, Tryz.results10, go_sem]) rfl ⟨?_, HT.out.bl⟩
            rw [HT.out.fail HFN.out (by
              rw [HDROP.out, List.drop_of_length_le (by omega : N.length ≤ n)]; first | rfl | simp [Tx.putF])]
        · have hc98 : fb[i] = 98 := hcode
          clear hcode hle
          by_cases hkl : k < S.length
          · have hklz : (k : Int) < (S.length : Int) := by omega
            obtain ⟨g, o, hA2, hgB, hcell⟩ : ∃ g o, A2 = some ⟨g, o, none⟩ ∧ g < w.heap.size ∧ w.cell? ⟨g, o + k, none⟩ = some (.string S[k]) := by
              rcases HS.out with h0 | ⟨g, o, h1, h2, h3⟩
              · exfalso; have e := congrArg List.length h0; rw [strs, List.length_map] at e; simp only [List.length_nil] at e; omega
              · exact ⟨g, o, h1, h2, by have := h3 k (by simpa [strs] using hkl); simpa [strs] using this⟩
            subst hA2
            have hct : wr.cell? ⟨g, o + k, none⟩ = some (.string S[k]) := (HT.out.bl.cell (p := ⟨g, o + k, none⟩) hgB).trans hcell
            have hSz := HSB.out S[k] (List.getElem_mem _)
            have HTD := Lib.hid (show (S.map dl).drop k = dl S[k] :: (S.map dl).drop (k + 1) by rw [List.drop_eq_getElem_cons (by simpa using hkl)]; simp)
            generalize S[k] = t at hct hSz HTD
            clear hcell hkl
            obtain ⟨wo, rfl⟩ : ∃ wo : World, wo = wr := ⟨_, rfl⟩
            go_wp2
            go_loopw [9, 10] (fun tv jv wi => ∃ (t' : ByteArray) (j : Nat), tv = .string t' ∧ jv = .int .i64 j ∧ j ≤ t.size ∧ dl t' = hexL ((dl t).take j) ∧ Below wo.heap.size wo wi)
              (fun _ jv _ => t.size - (intOf jv).toNat)
            case atStart => exact ⟨⟨#[]⟩, 0, rfl, rfl, Nat.zero_le _, by simp [hexL, dl], Below.refl _ _⟩
            case round =>
              obtain ⟨t', j, rfl, rfl, hj, hx, hbj⟩ := hrel
              have hlw := hbj.size
              have hboxj : wr.heap[w.heap.size]? = some (.cells #[.string word, .slice A1 N.length c1, .slice (some ⟨g, o, none⟩) S.length c2] 25 (0, 0)) := by
                rw [hbj.block _ (Array.getElem?_eq_some_iff.1 HT.out.box).1]; exact HT.out.box
              have j0 : wr.cell? ⟨w.heap.size, 2, none⟩ = some (.slice (some ⟨g, o, none⟩) S.length c2) := by rw [Lib.cell_of_heap hboxj]; rfl
              have j1 : wr.cell? ⟨g, o + k, none⟩ = some (.string t) := (hbj.cell (p := ⟨g, o + k, none⟩) (show g < wo.heap.size by omega)).trans hct
              by_cases hjt : j < t.size
              · have hjz : (j : Int) < (t.size : Int) := by omega
                have h256 := (t[j]'hjt).toNat_lt
                have hq0 : (0 : Int) ≤ ((t[j]'hjt).toNat : Int) / 16 := by omega
                have hq1 : ((t[j]'hjt).toNat : Int) / 16 + 1 ≤ 16 := by omega
                have hr0 : (0 : Int) ≤ ((t[j]'hjt).toNat : Int) % 16 := by omega
                have hr1 : ((t[j]'hjt).toNat : Int) % 16 + 1 ≤ 16 := by omega
                have hw1 : IntKind.i64.wrap (((t[j]'hjt).toNat : Int) / 16) = ((t[j]'hjt).toNat : Int) / 16 := IntWalk.i64_in _ (by omega)
                have hw4 : IntKind.i64.wrap (((t[j]'hjt).toNat : Int) % 16) = ((t[j]'hjt).toNat : Int) % 16 := IntWalk.i64_in _ (by omega)
                have hw5 : ((t[j]'hjt).toNat : Int).tmod 16 = ((t[j]'hjt).toNat : Int) % 16 := Int.tmod_eq_emod_of_nonneg (by omega)
                have hw2 : IntKind.i64.wrap (((t[j]'hjt).toNat : Int) / 16 + 1) = ((t[j]'hjt).toNat : Int) / 16 + 1 := IntWalk.i64_in _ (by omega)
                have hw3 : IntKind.i64.wrap (((t[j]'hjt).toNat : Int) % 16 + 1) = ((t[j]'hjt).toNat : Int) % 16 + 1 := IntWalk.i64_in _ (by omega)
                obtain ⟨p1, hs1, hp1⟩ := hex_sl ((t[j]'hjt).toNat / 16) (by omega)
                obtain ⟨p2, hs2, hp2⟩ := hex_sl ((t[j]'hjt).toNat % 16) (by omega)
                have hz1 : p1.size = 1 := by have e := congrArg List.length hp1; rw [dl_len] at e; exact e
                have hz2 : p2.size = 1 := by have e := congrArg List.length hp2; rw [dl_len] at e; exact e
                have hz3 : t'.size ≤ 200000 := by
                  have e := congrArg List.length hx
                  rw [dl_len, hexL_length, List.length_take] at e; omega
                have hz4 : ¬ 9223372036854775807 < p1.size + p2.size := by omega
                have hz5 : ¬ 9223372036854775807 < t'.size + (p1.size + p2.size) := by omega
                have HP1 := Lib.hid hp1
                have HP2 := Lib.hid hp2
                have hs1' : ∀ v : World, (Instr.slice 9 (.string ⟨#[48, 49, 50, 51, 52, 53, 54, 55, 56, 57, 97, 98, 99, 100, 101, 102]⟩) (some (.int .i64 (((t[j]'hjt).toNat : Int) / 16))) (some (.int .i64 (((t[j]'hjt).toNat : Int) / 16 + 1))) none).run Tryz.prog v = .ok (.string p1) v := fun v => hs1 v
                have hs2' : ∀ v : World, (Instr.slice 9 (.string ⟨#[48, 49, 50, 51, 52, 53, 54, 55, 56, 57, 97, 98, 99, 100, 101, 102]⟩) (some (.int .i64 (((t[j]'hjt).toNat : Int) % 16))) (some (.int .i64 (((t[j]'hjt).toNat : Int) % 16 + 1))) none).run Tryz.prog v = .ok (.string p2) v := fun v => hs2 v
                clear hp1 hp2 hs1 hs2 hz1 hz2 hz3
                go_wp2
                go_quiet (fail)
                clear hw1 hw2 hw3 hw4 hw5 hs1' hs2' hz4 hz5
                go_wp2
                go_roundw
                case rel =>
                  refine ⟨_, j + 1, rfl, by go_num, by omega, ?_, below_drewN hbj nq⟩
                  rw [dl_app, dl_app, hx, HP1.out, HP2.out]
                  have hsn : (dl t).take (j + 1) = (dl t).take j ++ [t[j]'hjt] := by
                    rw [List.take_succ_eq_append_getElem (by simpa using hjt)]; rfl
                  rw [hsn, hexL_snoc]; rfl
                case measure => simp [intOf]; omega
              · have hje : j = t.size := by omega
                have hjz : ¬ (j : Int) < (t.size : Int) := by omega
                have hxf : dl t' = hexL (dl t) := by rw [hx, List.take_of_length_le (by simp; omega)]
                have HXF := Lib.hid hxf
                have HBJ := Lib.hid hbj
                clear hx hxf hje hbj
                by_cases ht0 : t.size = 0
                · have ht'0 : t' = ⟨#[]⟩ := dl_inj (by
                    rw [HXF.out]
                    have : dl t = [] := List.length_eq_zero_iff.1 (by rw [dl_len]; exact ht0)
                    rw [this]; rfl)
                  subst ht'0
                  go_wp2
                  go_roundw
                  case rel =>
                    refine ⟨_, n, k + 1, i + 1, out ++ [hexF (dl t)], rfl, rfl, by go_num, by go_num, HT.out.step (hexF (dl t)) n (k + 1) ?_ hlt hn (by omega) ?_ ?_ HBJ.out⟩
                    · rw [HDROP.out, HTD.out]; rfl
                    · have : dl t = [] := List.length_eq_zero_iff.1 (by rw [dl_len]; exact ht0)
                      rw [this, dl_app]; rfl
                    · have := hexF_size t (by omega)
                      have h2 : (hexF (dl t)).toArray.size ≤ 299999 := this
                      simp at h2; omega
                  case measure => simp [intOf]; omega
                · have hsz' : t'.size = 2 * t.size := by
                    have e := congrArg List.length HXF.out
                    rw [dl_len, hexL_length, dl_len] at e; exact e
                  have hne : t'.toList.isEmpty = false := by
                    rw [Lib.toList_data, List.isEmpty_eq_false_iff]
                    intro e
                    have h0 := congrArg List.length e
                    rw [Array.length_toList] at h0
                    have h1 : t'.size = 0 := h0
                    omega
                  have hszle : t'.size ≤ 200000 := by omega
                  have HSZ := Lib.hid hsz'
                  clear hsz'
                  go_wp2
                  go_roundw
                  case rel =>
                    refine ⟨_, n, k + 1, i + 1, out ++ [hexF (dl t)], rfl, rfl, by go_num, by go_num, HT.out.step (hexF (dl t)) n (k + 1) ?_ hlt hn (by omega) ?_ ?_ HBJ.out⟩
                    · rw [HDROP.out, HTD.out]; rfl
                    · rw [dl_app, dl_app, HXF.out, hexF_pos t (by omega)]; rfl
                    · have := hexF_size t (by omega)
                      have h2 : (hexF (dl t)).toArray.size ≤ 299999 := this
                      simp at h2; omega
                  case measure => simp [intOf]; omega
          · have hkz : ¬ (k : Int) < (S.length : Int) := by omega
            have hkz2 : (S.length : Int) ≤ (k : Int) := by omega
            go_wp2
            refine bodyPost_ret (v := .string ⟨#[]⟩) (by simp [results, Tryz.results10, go_sem]) rfl ⟨?_, HT.out.bl⟩
            rw [HT.out.fail HFN.out (by
              rw [HDROP.out, List.drop_of_length_le (by simp; omega : (S.map dl).length ≤ k)]; rfl)]
      · have hie : i = f.length := by have := HT.out.hi; omega
        subst hie
        have hnlt : ¬ (f.length : Int) < (fb.size : Int) := by omega
        by_cases hnn : n = N.length
        · by_cases hkk : k = S.length
          · subst hnn hkk
            by_cases h4 : s.size ≤ 4000
            · have h4z : ¬ (4000 : Int) < (s.size : Int) := by omega
              go_wp2
              refine bodyPost_ret (v := .string s) (by simp [results, Tryz.results10, go_sem]) rfl ⟨?_, HT.out.bl⟩
              rw [HT.out.done HFN.out, if_pos h4]; rfl
            · have h4z : (4000 : Int) < (s.size : Int) := by omega
              go_wp2
              refine bodyPost_ret (v := .string ⟨#[]⟩) (by simp [results, Tryz.results10, go_sem]) rfl ⟨?_, HT.out.bl⟩
              rw [HT.out.done HFN.out, if_neg h4]
          · subst hnn
            have hkz : ¬ (k : Int) = (S.length : Int) := by omega
            have hkb : ((k : Int) == (S.length : Int)) = false := by simpa using hkz
            go_wp2
            refine bodyPost_ret (v := .string ⟨#[]⟩) (by simp [results, Tryz.results10, go_sem]) rfl ⟨?_, HT.out.bl⟩
            rw [HT.out.over HFN.out (.inr hkk)]
        · have hnz : ¬ (n : Int) = (N.length : Int) := by omega
          have hnb : ((n : Int) == (N.length : Int)) = false := by simpa using hnz
          go_wp2
          refine bodyPost_ret (v := .string ⟨#[]⟩) (by simp [results, Tryz.results10, go_sem]) rfl ⟨?_, HT.out.bl⟩
          rw [HT.out.over HFN.out (.inl hnn)]
end Go.Proofs.YtddfpnljkaodcaaGreatDoor
