/-
  Layer 31 (line): Words, the document's Words, and Few, walked.
-/
import Derived.Test.YtddfpnljkaodcaaGreatDoorZt
import Derived.Test.YtddfpnljkaodcaaGreatDoorIter
namespace Go.Proofs.YtddfpnljkaodcaaGreatDoor
open Go.RowKit PLineTexts Dp Go.Proofs.YtddfpnljkaodcaaGreatDoorW.PrintWords
open Go.Maps Go.Sort

/-! ### the words, rising -/
def wordsL : List (List UInt8) := [Pl.w_all, Pl.w_audit, Pl.w_clock, Pl.w_close, Pl.w_counts, Pl.w_deliver, Pl.w_flows, Pl.w_forge, Pl.w_lose, Pl.w_net, Pl.w_path, Pl.w_paths, Pl.w_played, Pl.w_session, Pl.w_submit, Pl.w_tick, Pl.w_turn, Pl.w_twin]
def wordsB : List ByteArray := wordsL.map fun l => ⟨l.toArray⟩
theorem words_len : wordsB.length = 18 := rfl
def R0 : Value → Option (DataW Unit × List MemPlace) := fun _ => some (.nil, [])
def pairs (tab : List (ByteArray × List Nat)) : List (Lit × DataW Unit) := tab.map fun p => (.string p.1.data.toList, .nil)
theorem all_keys {W : World} {B : Nat} : ∀ {es : List MapEntry} {tab : List (ByteArray × List Nat)}, AllAt W B es tab → (∀ p ∈ tab, p.1.size ≤ maxLen) →
    es.map (WideElems.rg Tryz.prog 9 R0) = pairs tab ∧ (∀ x ∈ es, ∃ y, WideElems.rd Tryz.prog 9 R0 x = some y) ∧ es.length = tab.length
  | _, _, .nil, _ => ⟨rfl, by simp, rfl⟩
  | ⟨key, val, born⟩ :: es, (k0, l0) :: tab, .cons he h, hs => by
    obtain ⟨h1, h2, h3⟩ := all_keys h (fun p hp => hs p (List.mem_cons_of_mem _ hp))
    have hk : key = .string k0 := he.1
    subst hk
    have hrd : WideElems.rd Tryz.prog 9 R0 ⟨.string k0, val, born⟩ = some (.string k0.data.toList, .nil) :=
      WideElems.rd_mk (yv := (.nil, [])) (Go.WideMaps.keyOf_string_mk Tryz.underlying9 (hs (k0, l0) (by simp))) rfl
    refine ⟨?_, ?_, by simp [h3]⟩
    · rw [List.map_cons, WideElems.rg_of hrd, h1]; rfl
    · intro x hx
      rcases List.mem_cons.1 hx with e | hx
      · exact ⟨_, by rw [e]; exact hrd⟩
      · exact h2 x hx
def formsD : DataW Unit := .map ((pairs formTabB).foldr DataW.insert [])
theorem tab_small : ∀ p ∈ formTabB, p.1.size ≤ maxLen := by
  have : formTabB.all (fun p => decide (p.1.size ≤ 10)) = true := by decide +kernel
  intro p hp
  have := List.all_eq_true.1 this p hp
  simp only [decide_eq_true_eq] at this
  unfold maxLen; omega
theorem forms_own {W : World} {B m : Nat} (h : FMap W B m formTabB) : W.ownsMap Tryz.prog 9 R0 m 18 formsD := by
  obtain ⟨_, es, clock, hm, ha, hst⟩ := h
  obtain ⟨h1, h2, h3⟩ := all_keys ha tab_small
  have hl : es.size = 18 := by
    have : es.toList.length = formTabB.length := h3
    rw [Array.length_toList] at this
    rw [this]; decide +kernel
  exact ⟨es, clock, hm, ⟨by rw [hl]; unfold maxLen; omega, hst, h2⟩, by omega, by rw [h1]; rfl⟩
theorem keys_perm : (strKeys formsD).Perm wordsL := by decide +kernel
theorem words_sorted : wordsL.mergeSort leB = wordsL := by
  refine List.mergeSort_of_pairwise ?_
  decide +kernel
theorem sorted_words {ss : List (List UInt8)} (h : ss.Perm (strKeys formsD)) : ss.length = 18 ∧ (ss.mergeSort (fun x y => decide (x ≤ y))).map encStr = strs wordsB := by
  have hp := h.trans keys_perm
  refine ⟨by rw [hp.length_eq]; rfl, ?_⟩
  have e := mergeSort_of_perm hp
  rw [words_sorted] at e
  show (ss.mergeSort leB).map encStr = _
  rw [e]; rfl

def PostWords (w : World) (e : Ending) (w' : World) : Prop := ∃ A c, e = .returned (.slice A 18 c) ∧ RdS w' w'.heap.size A (strs wordsB) ∧ Below w.heap.size w w'
set_option maxHeartbeats 2000000 in
theorem words_any (w : World) : Calls Tryz.prog 7 #[] w (PostWords w) := by
  refine (callsIn_wide (n := 6)).1 ?_
  have hfF : Fence.wide.fn 15 := trivial
  have hfK : Fence.wide.fn 14 := trivial
  have hfS : Fence.wide.fn 13 := trivial
  refine callsIn_of_wp Tryz.func7 rfl trivial ?_ rfl
  simp only [Tryz.ntmps7, List.size_toArray, List.length_nil, Nat.reduceSub, Array.replicate_succ, Array.replicate_zero, List.push_toArray, List.append_toArray, List.nil_append, List.cons_append]
  gi_wp2_with (gi_at_call 15; refine (callsIn_wide.2 (forms_any _)).mono ?_; rintro e w1 ⟨rfl, hF, hb1⟩)
  have hown := Lib.hid (forms_own hF)
  have HB1 := Lib.hid hb1
  clear hF hb1
  gi_wp2_with (first
    | (gi_at_call 14; refine (Tryz.maps_Keys_14 _ _).mono ?_; rintro e w' ⟨rfl, rfl⟩)
    | (gi_at_call 13; refine (Tryz.slices_Sorted_keys_13_14 w.heap.size 18 formsD R0 w1 hown.out (by unfold maxLen; decide) (by decide)).mono ?_; rintro e w' ⟨v, ss, rfl, hS, hrow, hnil, hb⟩))
  obtain ⟨hl, hm⟩ := sorted_words hS
  rw [hl, hm] at hrow
  obtain ⟨A, c, rfl, _, _, _, hrd⟩ := own_rd hrow
  have hb01 : Below w.heap.size w w' := HB1.out.trans ((((Below.refl w1.heap.size w1).alloc (Nat.le_refl _) _).trans (hb.mono (by simp))).mono HB1.out.size)
  clear hS hrow hnil hb hm hl
  go_ret
  exact ⟨A, c, rfl, hrd, hb01⟩

/-! ### the document's words -/
def PostRW (w : World) (e : Ending) (w' : World) : Prop := ∃ A, e = .returned (.slice A 18 18) ∧ RdS w' w'.heap.size A (strs wordsB) ∧ Below w.heap.size w w'
set_option maxRecDepth 100000 in
theorem refwords_any (w : World) : Calls Tryz.prog 8 #[] w (PostRW w) := by
  go_enter Tryz.func8, Tryz.ntmps8
  go_wp2
  go_ret
  refine ⟨_, rfl, .inr ⟨w.heap.size, 0, rfl, by simp, fun j hj => ?_⟩, (Below.refl _ _).alloc (Nat.le_refl _) _⟩
  rw [Nat.zero_add, Lib.cell_of_heap (heap_alloc_new w _)]
  show ((strs wordsB).toArray)[j]? = _
  rw [List.getElem?_toArray, List.getElem?_eq_getElem hj]

/-! ### Few, Cut -/
theorem cut_all (s : ByteArray) (n : Int) (h0 : 0 ≤ n) : ∃ t, cordellelaw02_Cut.f s n = some t ∧ (t.size : Int) ≤ n := by
  unfold cordellelaw02_Cut.f
  by_cases h : (s.size : Int) > n
  · refine ⟨s.extract 0 n.toNat, by rw [if_pos h, if_pos h0, if_pos (by omega)], ?_⟩
    simp only [ByteArray.size_extract]; omega
  · exact ⟨s, by rw [if_neg h], by omega⟩
theorem few_l0 (l : List ByteArray) : ∀ (d i k : Nat) (x : List ByteArray), i + d = 3 → d < k → x.length = i → (∀ t ∈ x, t.size ≤ 60) →
    ∃ r, cordellelaw02_Few.l0 k l 3 60 x (i : Int) = some r ∧ r.length ≤ 3 ∧ ∀ t ∈ r, t.size ≤ 60 := by
  intro d
  induction d with
  | zero =>
    intro i k x hi hk hx hs
    obtain ⟨k, rfl⟩ : ∃ m, k = m + 1 := ⟨k - 1, by omega⟩
    refine ⟨x, ?_, by omega, hs⟩
    simp only [cordellelaw02_Few.l0]
    split
    · rw [if_neg (by omega)]
    · rfl
  | succ d ih =>
    intro i k x hi hk hx hs
    obtain ⟨k, rfl⟩ : ∃ m, k = m + 1 := ⟨k - 1, by omega⟩
    simp only [cordellelaw02_Few.l0]
    by_cases h : (i : Int) < (l.length : Int)
    · obtain ⟨t, ht, hts⟩ := cut_all (rdOf ByteArray.empty l (i : Int)) 60 (by decide)
      have ei : wrap64 ((i : Int) + 1) = ((i + 1 : Nat) : Int) := by unfold wrap64; omega
      rw [if_pos h, if_pos (by omega), if_pos (by omega), ht]
      simp only [Option.bind_some]
      rw [if_pos (by omega), ei]
      refine ih (i + 1) k (x ++ [t]) (by omega) (by omega) (by simp [hx]) ?_
      intro u hu
      rcases List.mem_append.1 hu with hu | hu
      · exact hs u hu
      · rw [List.mem_singleton.1 hu]; omega
    · rw [if_neg h]
      exact ⟨x, rfl, by omega, hs⟩
def PostFew (r : List ByteArray) (w : World) (e : Ending) (w' : World) : Prop := ∃ A c, e = .returned (.slice A r.length c) ∧ r.length ≤ c ∧ w'.ownsRow w.heap.size 9 1 (.slice A r.length c) r.length (strs r) ∧ Below w.heap.size w w'
theorem few_all (l : List ByteArray) : ∃ r : List ByteArray, r.length ≤ 3 ∧ (∀ t ∈ r, t.size ≤ 60) ∧ ∀ (A : Option Addr) (c : Nat) (w : World), Kd.C Kd.string w A l.length l → l.length ≤ c → Calls Tryz.prog 6 #[.slice A l.length c, .int .i64 3, .int .i64 60] w (PostFew r w) := by
  obtain ⟨r, hr, h1, h2⟩ := few_l0 l 3 0 4 [] rfl (by omega) rfl (by simp)
  refine ⟨r, h1, h2, fun A c w hC hc => ?_⟩
  refine (cordellelaw02_Few.calls 4 A c l 3 60 r w hC hc hr).mono ?_
  rintro e w' ⟨v, rfl, hR, hb⟩
  obtain ⟨A', c', rfl, l2, _⟩ := Kd.R_reads hR
  exact ⟨A', c', rfl, l2, Kd.own_of_R hR, hb⟩
end Go.Proofs.YtddfpnljkaodcaaGreatDoor
