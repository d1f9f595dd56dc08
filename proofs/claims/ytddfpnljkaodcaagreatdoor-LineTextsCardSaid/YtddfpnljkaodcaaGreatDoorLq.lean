/-
  Small contracts that Text of layer 31 (line) leans on: numbers as texts, lists held against each other, texts joined; slices that are read.
-/
import Derived.Test.YtddfpnljkaodcaaGreatDoorLo
import Derived.Test.YtddfpnljkaodcaaGreatDoorLp
namespace Go.Proofs.YtddfpnljkaodcaaGreatDoor
open Go.RowKit

/-- the cells that a slice at A reads -/
def RdS (w : World) (B : Nat) (A : Option Addr) (xs : List Value) : Prop := xs = [] ∨ ∃ g o, A = some ⟨g, o, none⟩ ∧ g < B ∧ ∀ j (h : j < xs.length), w.cell? ⟨g, o + j, none⟩ = some xs[j]
theorem RdS.below {w w' : World} {B B' : Nat} {A : Option Addr} {xs : List Value} (h : RdS w B A xs) (hb : Below B' w w') (hB : B ≤ B') : RdS w' B A xs := by
  rcases h with h | ⟨g, o, rfl, hg, hc⟩
  · exact .inl h
  · exact .inr ⟨g, o, rfl, hg, fun j hj => (hb.cell (p := ⟨g, o + j, none⟩) (by show g < B'; omega)).trans (hc j hj)⟩
theorem RdS.more {w : World} {B B' : Nat} {A : Option Addr} {xs : List Value} (h : RdS w B A xs) (hB : B ≤ B') : RdS w B' A xs := by
  rcases h with h | ⟨g, o, rfl, hg, hc⟩
  · exact .inl h
  · exact .inr ⟨g, o, rfl, by omega, hc⟩
theorem own_rd {w : World} {base : Nat} {e : TypeId} {n : Nat} {v : Value} {xs : List Value} (h : w.ownsRow base e 1 v n xs) : ∃ A c, v = .slice A n c ∧ n ≤ c ∧ xs.length = n ∧ n ≤ 9223372036854775807 ∧ RdS w w.heap.size A xs := by
  have hl : xs.length = n := by have := h.1; omega
  rcases h.2 with ⟨rfl, rfl⟩ | ⟨g, cap, cur, rfl, hb, hh, hnc, hcm, _⟩
  · exact ⟨none, 0, rfl, by omega, hl, by omega, .inl (List.eq_nil_of_length_eq_zero hl)⟩
  · refine ⟨_, cap, rfl, hnc, hl, by simp only [maxLen] at hcm; omega, .inr ⟨g, 0, rfl, (Array.getElem?_eq_some_iff.1 hh).1, fun j hj => ?_⟩⟩
    have := h.cells (g := g) rfl j xs[j] (List.getElem?_eq_getElem hj)
    have ha : (⟨g, 0, none⟩ : Addr).add j = ⟨g, 0 + j, none⟩ := by unfold Addr.add; split <;> simp_all
    rwa [ha] at this
theorem itoa_any (n : Int) (h0 : -9223372036854775808 ≤ n) (h1 : n ≤ 9223372036854775807) (w : World) (hG : Glob w) :
    Calls Tryz.prog 17 #[.int .i64 n] w fun e w' => e = .returned (.string ⟨(Lib.itoa n).toArray⟩) ∧ Below w.heap.size w w' := by
  refine (Tryz.strconv_Itoa n h0 h1 w hG.pow).mono ?_
  rintro e w' ⟨rfl, k, os, rfl⟩
  refine ⟨rfl, ⟨rfl, rfl, rfl, by simp [Go.Sort.grow], fun i hi => ?_⟩⟩
  simp only [Go.Sort.grow]
  rw [Array.getElem?_append_left (by simpa using hi)]
  rfl

theorem drewN_below (w : World) (n : Nat) : Below w.heap.size w (w.drewN n) := below_drewN (Below.refl _ _) n
theorem ints_get (xs : List Int) (j : Nat) (hj : j < xs.length) : (ints xs)[j]'(by simpa [ints] using hj) = .int .i64 (xs.getD j 0) := by
  simp [ints, List.getD_eq_getElem?_getD, List.getElem?_eq_getElem hj]
theorem eq_ints (A1 A2 : Option Addr) (c1 c2 B1 B2 : Nat) (xs ys : List Int) (w : World) (h1 : RdS w B1 A1 (ints xs)) (h2 : RdS w B2 A2 (ints ys)) (hx : xs.length ≤ 9223372036854775807) (hy : ys.length ≤ 9223372036854775807) :
    Calls Tryz.prog 19 #[.slice A1 xs.length c1, .slice A2 ys.length c2] w fun e w' => e = .returned (.bool (decide (xs = ys))) ∧ Below w.heap.size w w' := by
  by_cases hl : xs.length = ys.length
  · cases xs with
    | nil =>
      have : ys = [] := List.eq_nil_of_length_eq_zero (by rw [← hl]; rfl)
      subst this
      refine (Tryz.slices_Equal_int_empty A1 A2 c1 0 c2 w (by omega)).mono ?_
      rintro e w' ⟨rfl, rfl⟩
      exact ⟨rfl, Below.refl _ _⟩
    | cons x xs =>
      cases ys with
      | nil => simp at hl
      | cons y ys =>
        rcases h1 with h1 | ⟨g1, o1, rfl, _, hc1⟩
        · simp [ints] at h1
        rcases h2 with h2 | ⟨g2, o2, rfl, _, hc2⟩
        · simp [ints] at h2
        refine (Tryz.slices_Equal_int g1 o1 (x :: xs).length c1 g2 o2 (y :: ys).length c2 (x :: xs) (y :: ys) w (Nat.le_refl _) (Nat.le_refl _) (by omega) (by omega) (fun j hj => ?_) (fun j hj => ?_)).mono ?_
        · rw [hc1 j (by simpa [ints] using hj), ints_get (x :: xs) j hj]
        · rw [hc2 j (by simpa [ints] using hj), ints_get (y :: ys) j hj]
        · rintro e w' ⟨rfl, q, rfl⟩
          refine ⟨?_, drewN_below _ _⟩
          rw [List.take_of_length_le (Nat.le_refl _), List.take_of_length_le (Nat.le_refl _)]
          congr 2
          rw [Bool.eq_iff_iff, beq_iff_eq, decide_eq_true_iff]
  · refine (Tryz.slices_Equal_int_lens A1 A2 xs.length c1 ys.length c2 w hl).mono ?_
    rintro e w' ⟨rfl, rfl⟩
    have : ¬ xs = ys := fun e => hl (by rw [e])
    exact ⟨by rw [decide_eq_false this], Below.refl _ _⟩
theorem strs_get (xs : List ByteArray) (j : Nat) (hj : j < xs.length) : (strs xs)[j]'(by simpa [strs] using hj) = .string (xs.getD j ByteArray.empty) := by
  simp [strs, List.getD_eq_getElem?_getD, List.getElem?_eq_getElem hj]
theorem eq_strs (A1 A2 : Option Addr) (c1 c2 B1 B2 : Nat) (xs ys : List ByteArray) (w : World) (h1 : RdS w B1 A1 (strs xs)) (h2 : RdS w B2 A2 (strs ys)) (hx : xs.length ≤ 9223372036854775807) (hy : ys.length ≤ 9223372036854775807) :
    Calls Tryz.prog 20 #[.slice A1 xs.length c1, .slice A2 ys.length c2] w fun e w' => e = .returned (.bool (decide (xs = ys))) ∧ Below w.heap.size w w' := by
  by_cases hl : xs.length = ys.length
  · cases xs with
    | nil =>
      have : ys = [] := List.eq_nil_of_length_eq_zero (by rw [← hl]; rfl)
      subst this
      refine (Tryz.slices_Equal_string_empty A1 A2 c1 0 c2 w (by omega)).mono ?_
      rintro e w' ⟨rfl, rfl⟩
      exact ⟨rfl, Below.refl _ _⟩
    | cons x xs =>
      cases ys with
      | nil => simp at hl
      | cons y ys =>
        rcases h1 with h1 | ⟨g1, o1, rfl, _, hc1⟩
        · simp [strs] at h1
        rcases h2 with h2 | ⟨g2, o2, rfl, _, hc2⟩
        · simp [strs] at h2
        refine (Tryz.slices_Equal_string g1 o1 (x :: xs).length c1 g2 o2 (y :: ys).length c2 (x :: xs) (y :: ys) w (Nat.le_refl _) (Nat.le_refl _) (by omega) (by omega) (fun j hj => ?_) (fun j hj => ?_)).mono ?_
        · rw [hc1 j (by simpa [strs] using hj), strs_get (x :: xs) j hj]
        · rw [hc2 j (by simpa [strs] using hj), strs_get (y :: ys) j hj]
        · rintro e w' ⟨rfl, q, rfl⟩
          refine ⟨?_, drewN_below _ _⟩
          rw [List.take_of_length_le (Nat.le_refl _), List.take_of_length_le (Nat.le_refl _)]
  · refine (Tryz.slices_Equal_string_lens A1 A2 xs.length c1 ys.length c2 w hl).mono ?_
    rintro e w' ⟨rfl, rfl⟩
    have : ¬ xs = ys := fun e => hl (by rw [e])
    exact ⟨by rw [decide_eq_false this], Below.refl _ _⟩
end Go.Proofs.YtddfpnljkaodcaaGreatDoor
