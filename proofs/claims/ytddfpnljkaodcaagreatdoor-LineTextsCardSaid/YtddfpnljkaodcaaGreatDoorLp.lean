/-
  The walk of hex of layer 31 (line): bytes as digits.
-/
import Derived.Test.YtddfpnljkaodcaaGreatDoorLf
namespace Go.Proofs.YtddfpnljkaodcaaGreatDoor
open Go.RowKit

def hexC (n : Nat) : UInt8 := if n < 10 then UInt8.ofNat (48 + n) else UInt8.ofNat (87 + n)
def hexL : List UInt8 → List UInt8
  | [] => []
  | b :: r => hexC (b.toNat / 16) :: hexC (b.toNat % 16) :: hexL r
theorem hexL_snoc : ∀ (l : List UInt8) (b : UInt8), hexL (l ++ [b]) = hexL l ++ [hexC (b.toNat / 16), hexC (b.toNat % 16)]
  | [], b => rfl
  | a :: l, b => by simp [hexL, hexL_snoc l b]
theorem hexL_length : ∀ l : List UInt8, (hexL l).length = 2 * l.length
  | [] => rfl
  | a :: l => by simp [hexL, hexL_length l]; omega
theorem hex_get_fin : ∀ x : Fin 16, ({ data := #[48, 49, 50, 51, 52, 53, 54, 55, 56, 57, 97, 98, 99, 100, 101, 102] } : ByteArray)[x.val]'(x.isLt) = hexC x.val := by decide +kernel
theorem hex_get (x : Nat) (hx : x < 16) (h : x < ({ data := #[48, 49, 50, 51, 52, 53, 54, 55, 56, 57, 97, 98, 99, 100, 101, 102] } : ByteArray).size) : ({ data := #[48, 49, 50, 51, 52, 53, 54, 55, 56, 57, 97, 98, 99, 100, 101, 102] } : ByteArray)[x] = hexC x := hex_get_fin ⟨x, hx⟩
set_option maxHeartbeats 1000000 in
set_option maxRecDepth 100000 in
theorem hex_some (s : ByteArray) (w : World) (h0 : s.toList.isEmpty = false) (hs : s.size ≤ 1000000) :
    Calls Tryz.prog 16 #[.string s] w fun e w' => e = .returned (.string ⟨(hexL s.data.toList).toArray⟩) ∧ Below w.heap.size w w' := by
  have hI0 : Lib.IsBuilder 62 5 w.heap.size w.heap.size [] (w.alloc (.cells #[.pointer none, .slice none 0 0] 62)) := Lib.fresh_isBuilder 62 5 w
  have hb0 : Below w.heap.size w (w.alloc (.cells #[.pointer none, .slice none 0 0] 62)) := (Below.refl _ w).alloc (Nat.le_refl _) _
  go_enter Tryz.func16, Tryz.ntmps16
  go_wp2
  clear h0
  go_loopw [9] (fun i wr => ∃ k : Nat, k ≤ s.size ∧ i = .int .i64 k ∧ Lib.IsBuilder 62 5 w.heap.size w.heap.size (Lib.byteCells (hexL (s.data.toList.take k))) wr ∧ Below w.heap.size w wr)
    (fun i _ => s.size - (intOf i).toNat)
  case atStart => exact ⟨0, by omega, rfl, by simpa [hexL, Lib.byteCells] using hI0, hb0⟩
  case round =>
    obtain ⟨k, hk, rfl, hI, hb⟩ := hrel
    clear hI0 hb0
    by_cases hlt : k < s.size
    · have hltz : (k : Int) < (s.size : Int) := by omega
      have hbw := hb.size
      have h256 := (s[k]'hlt).toNat_lt
      have hq0 : (0 : Int) ≤ ((s[k]'hlt).toNat : Int) / 16 := by omega
      have hq1 : ((s[k]'hlt).toNat : Int) / 16 < 16 := by omega
      go_wp2_with (go_at_call 29; refine (writeByte_any w.heap.size w.heap.size _ _ wr hI (by rw [Lib.byteCells_length, hexL_length, List.length_take]; omega) hbw).mono ?_)
      rintro e w2 ⟨rfl, hA, hb2⟩
      rw [hex_get _ (by omega)] at hA
      have hI2 : Lib.IsBuilder 62 5 w.heap.size w.heap.size _ w2 := .inr hA
      have hbw2 := Nat.le_trans hbw hb2.size
      clear hA hI
      go_wp2_with (go_at_call 29; refine (writeByte_any w.heap.size w.heap.size _ _ w2 hI2 (by rw [List.length_append, Lib.byteCells_length, hexL_length, List.length_take]; simp; omega) hbw2).mono ?_)
      rintro e w3 ⟨rfl, hA, hb3⟩
      rw [hex_get _ (by omega)] at hA
      have hb03 : Below w.heap.size w w3 := (hb.trans hb2).trans hb3
      have hsn : s.data.toList.take (k + 1) = s.data.toList.take k ++ [s[k]'hlt] := by
        rw [List.take_succ_eq_append_getElem (by simpa using hlt)]; rfl
      have hI3 : Lib.IsBuilder 62 5 w.heap.size w.heap.size (Lib.byteCells (hexL (s.data.toList.take (k + 1)))) w3 := by
        rw [hsn, hexL_snoc]
        refine .inr ?_
        simpa [Lib.byteCells] using hA
      clear hA hI2 hsn
      go_wp2
      go_roundw
      case rel => exact ⟨k + 1, by omega, by go_num, hI3, hb03⟩
      case measure => simp [intOf]; omega
    · have hk' : k = s.size := by omega
      have hall : s.data.toList.take k = s.data.toList := List.take_of_length_le (by simp; omega)
      rw [hall] at hI
      have hbw := hb.size
      clear hk'
      go_wp2_with (go_at_call 30; refine (Tryz.Builder_String_any w.heap.size w.heap.size _ wr hI hbw).mono ?_; rintro e w2 ⟨rfl, hb2⟩)
      go_ret
      exact ⟨rfl, hb.trans hb2⟩
set_option maxHeartbeats 1000000 in
set_option maxRecDepth 100000 in
theorem hex_none (s : ByteArray) (w : World) (h0 : s.toList.isEmpty = true) :
    Calls Tryz.prog 16 #[.string s] w fun e w' => e = .returned (.string ⟨#[45]⟩) ∧ Below w.heap.size w w' := by
  go_enter Tryz.func16, Tryz.ntmps16
  go_wp2
  go_ret
  exact ⟨rfl, Below.refl _ _⟩
/-- bytes as a line has them -/
def hexF (l : List UInt8) : List UInt8 := if l = [] then [45] else hexL l
theorem hex_any (s : ByteArray) (w : World) (hs : s.size ≤ 1000000) :
    Calls Tryz.prog 16 #[.string s] w fun e w' => e = .returned (.string ⟨(hexF s.data.toList).toArray⟩) ∧ Below w.heap.size w w' := by
  cases h0 : s.toList.isEmpty with
  | true =>
    have h1 := h0
    rw [Lib.toList_data, List.isEmpty_iff] at h1
    rw [h1, hexF, if_pos rfl]
    exact hex_none s w h0
  | false =>
    have h1 : s.data.toList ≠ [] := by intro e; rw [Lib.toList_data, e] at h0; simp at h0
    rw [hexF, if_neg h1]
    exact hex_some s w h0 hs
end Go.Proofs.YtddfpnljkaodcaaGreatDoor
