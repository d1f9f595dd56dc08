import Derived.Test.YtddfpnljkaodcaaGreatDoorLe
import Derived.IntWalk
namespace Go.Proofs.YtddfpnljkaodcaaGreatDoor
open Go.RowKit

theorem hexIdx_fin : ∀ c : Fin 256, (Pl.hexV (UInt8.ofNat c.val) = none ∧ Lib.indexByte hexd.data.toList (UInt8.ofNat c.val) = -1) ∨ (∃ x : Fin 16, Pl.hexV (UInt8.ofNat c.val) = some x.val ∧ Lib.indexByte hexd.data.toList (UInt8.ofNat c.val) = x.val) := by decide +kernel
theorem hexIdx (c : UInt8) : (Pl.hexV c = none ∧ Lib.indexByte hexd.data.toList c = -1) ∨ (∃ x : Nat, x < 16 ∧ Pl.hexV c = some x ∧ Lib.indexByte hexd.data.toList c = x) := by
  have := hexIdx_fin ⟨c.toNat, c.toNat_lt⟩
  simp only [UInt8.ofNat_toNat] at this
  rcases this with h | ⟨x, h⟩
  · exact .inl h
  · exact .inr ⟨x.val, x.isLt, h⟩

def PairsTo (s : ByteArray) (m : Nat) (out : List UInt8) : Prop := Pl.hexPairs s.data.toList = (Pl.hexPairs (s.data.toList.drop (2 * m))).map (out ++ ·)
def HexIs (s : ByteArray) (r : ByteArray) (ok : Bool) : Prop := (ok = true ∧ Pl.bytesF s.data.toList = some r.data.toList) ∨ (ok = false ∧ Pl.bytesF s.data.toList = none)
def PostH (s : ByteArray) (w : World) (e : Ending) (w' : World) : Prop := ∃ (r : ByteArray) (ok : Bool), e = .returned (.tuple #[.string r, .bool ok]) ∧ HexIs s r ok ∧ Below w.heap.size w w'

def hexN (c : UInt8) : Int := Lib.indexByte hexd.data.toList c
theorem idx_lit (b : UInt8) (w : World) : Calls Tryz.prog 51 #[.string { data := #[48, 49, 50, 51, 52, 53, 54, 55, 56, 57, 97, 98, 99, 100, 101, 102] }, .int .u8 (b.toNat : Int)] w fun e w' => e = .returned (.int .i64 (hexN b)) ∧ w' = w := by
  have h := Tryz.strings_IndexByte hexd (b.toNat : Int) w
  have e : ((b.toNat : Int).toNat.toUInt8) = b := by simp
  rw [e] at h
  exact h
theorem hexN_range (b : UInt8) : -1 ≤ hexN b ∧ hexN b < 16 := by
  rcases hexIdx b with ⟨_, h⟩ | ⟨x, hx, _, h⟩ <;> unfold hexN <;> rw [h] <;> omega
theorem bytesF_pairs (s : ByteArray) (h0 : s.toList.isEmpty = false) (h1 : (s.toList == [45]) = false) : Pl.bytesF s.data.toList = Pl.hexPairs s.data.toList := by
  rw [Lib.toList_data] at h0 h1
  unfold Pl.bytesF
  rw [if_neg (by intro e; rw [e] at h1; simp at h1), if_neg (by intro e; rw [e] at h0; simp at h0)]
theorem drop_two (s : ByteArray) (j : Nat) (h1 : j < s.size) (h2 : j + 1 < s.size) : s.data.toList.drop j = (s[j]'h1) :: (s[j + 1]'h2) :: s.data.toList.drop (j + 2) := by
  have hl : s.data.toList.length = s.size := by simp
  rw [List.drop_eq_getElem_cons (by omega : j < s.data.toList.length), List.drop_eq_getElem_cons (by omega : j + 1 < s.data.toList.length)]
  rfl
theorem hex_bad (s : ByteArray) (j m : Nat) (h1 : j < s.size) (h2 : j + 1 < s.size) (hm : 2 * m = j) {out : List UInt8} (hP : PairsTo s m out) (h0 : s.toList.isEmpty = false) (h45 : (s.toList == [45]) = false)
    (hn : hexN (s[j]'h1) < 0 ∨ hexN (s[j + 1]'h2) < 0) : Pl.bytesF s.data.toList = none := by
  rw [bytesF_pairs s h0 h45, hP, hm, drop_two s j h1 h2, Pl.hexPairs]
  rcases hexIdx (s[j]'h1) with ⟨e1, _⟩ | ⟨x, _, e1, f1⟩
  · rw [e1]; rfl
  · rcases hexIdx (s[j + 1]'h2) with ⟨e2, _⟩ | ⟨y, _, e2, f2⟩
    · rw [e1, e2]; rfl
    · exfalso; unfold hexN at hn; rw [f1, f2] at hn; omega
theorem hex_ok (s : ByteArray) (j m : Nat) (h1 : j < s.size) (h2 : j + 1 < s.size) (hm : 2 * m = j) {out : List UInt8} (hP : PairsTo s m out) (hn1 : 0 ≤ hexN (s[j]'h1)) (hn2 : 0 ≤ hexN (s[j + 1]'h2)) :
    ∃ x y : Nat, x < 16 ∧ y < 16 ∧ hexN (s[j]'h1) = x ∧ hexN (s[j + 1]'h2) = y ∧ PairsTo s (m + 1) (out ++ [UInt8.ofNat (16 * x + y)]) := by
  rcases hexIdx (s[j]'h1) with ⟨_, f1⟩ | ⟨x, hx, e1, f1⟩
  · unfold hexN at hn1; rw [f1] at hn1; omega
  · rcases hexIdx (s[j + 1]'h2) with ⟨_, f2⟩ | ⟨y, hy, e2, f2⟩
    · unfold hexN at hn2; rw [f2] at hn2; omega
    · refine ⟨x, y, hx, hy, f1, f2, ?_⟩
      unfold PairsTo at hP ⊢
      rw [hP, hm, drop_two s j h1 h2, Pl.hexPairs, e1, e2]
      simp only [Option.map_map]
      rw [show 2 * (m + 1) = j + 2 by omega]
      congr 1
      funext r
      simp

theorem or_byte_fin : ∀ x y : Fin 16, bits BinOp.or IntKind.i64 ((x.val : Int) * 16) (y.val : Int) % 256 = ((UInt8.ofNat (16 * x.val + y.val)).toNat : Int) := by decide +kernel
theorem or_byte (x y : Nat) (hx : x < 16) (hy : y < 16) : bits BinOp.or IntKind.i64 ((x : Int) * 16) (y : Int) % 256 = ((UInt8.ofNat (16 * x + y)).toNat : Int) := or_byte_fin ⟨x, hx⟩ ⟨y, hy⟩

set_option maxHeartbeats 1000000 in
set_option maxRecDepth 100000 in
theorem unhex_even (s : ByteArray) (w : World) (h0 : s.toList.isEmpty = false) (h1 : (s.toList == [45]) = false) (h2 : ((s.size : Int) % 2 != 0) = false) (hs : s.size ≤ 4000) :
    Calls Tryz.prog 38 #[.string s] w (PostH s w) := by
  have hI0 : Lib.IsBuilder 62 5 w.heap.size w.heap.size [] (w.alloc (.cells #[.pointer none, .slice none 0 0] 62)) := Lib.fresh_isBuilder 62 5 w
  have hb0 : Below w.heap.size w (w.alloc (.cells #[.pointer none, .slice none 0 0] 62)) := (Below.refl _ w).alloc (Nat.le_refl _) _
  have H1 := Lib.hid h1
  have H0 := Lib.hid h0
  go_enter Tryz.func38, Tryz.ntmps38
  go_wp2
  clear h0 h1
  have hev : s.size % 2 = 0 := by have := bne_eq_false_iff_eq.1 h2; omega
  clear h2
  go_loopw [5] (fun i wr => ∃ (m : Nat) (out : List UInt8), 2 * m ≤ s.size ∧ i = .int .i64 ((2 * m : Nat) : Int) ∧ Lib.IsBuilder 62 5 w.heap.size w.heap.size (Lib.byteCells out) wr ∧ out.length ≤ m ∧ PairsTo s m out ∧ Below w.heap.size w wr)
    (fun i _ => s.size - (intOf i).toNat)
  case atStart => exact ⟨0, [], by omega, rfl, hI0, by simp, by unfold PairsTo; simp, hb0⟩
  case round =>
    obtain ⟨m, out, hm, rfl, hI, hol, hP, hb⟩ := hrel
    clear hI0 hb0
    by_cases hlt : 2 * m < s.size
    · have hlt2 : 2 * m + 1 < s.size := by omega
      have hltz : ((2 * m : Nat) : Int) < (s.size : Int) := by omega
      have hltz2 : ((2 * m : Nat) : Int) + 1 < (s.size : Int) := by omega
      have hge : (0 : Int) ≤ ((2 * m : Nat) : Int) := by omega
      have HP := Lib.hid hP
      clear hP
      generalize hmm : 2 * m = j at *
      have HM := Lib.hid hmm
      clear hmm
      have hev' : s.size % 2 = 0 := hev
      clear hev
      have hsz63 : (j : Int) + 1 ≤ 9223372036854775807 := by omega
      have hw1 : IntKind.i64.wrap ((j : Int) + 1) = (j : Int) + 1 := IntWalk.i64_in _ (by omega)
      have hw2 : (0 : Int) ≤ (j : Int) + 1 := by omega
      have hw3 : ((j : Int) + 1).toNat = j + 1 := by omega
      go_wp2
      go_quiet ((go_at_call 51; exact Calls.quiet_of_same (idx_lit _ _)))
      have hr1 := hexN_range (s[j]'hlt)
      have hr2 := hexN_range (s[j + 1]'hlt2)
      generalize hx1 : hexN (s[j]'hlt) = x1 at hr1 ⊢
      generalize hx2 : hexN (s[j + 1]'hlt2) = x2 at hr2 ⊢
      have HX1 := Lib.hid hx1
      have HX2 := Lib.hid hx2
      clear hx1 hx2 hw1 hsz63
      by_cases hneg : x1 < 0 ∨ x2 < 0
      · have hres : HexIs s ByteArray.empty false := .inr ⟨rfl, hex_bad s j m hlt hlt2 HM.out HP.out H0.out H1.out (by rw [HX1.out, HX2.out]; exact hneg)⟩
        have HR := Lib.hid hres
        clear hres
        by_cases h1 : x1 < 0
        · go_wp2
          go_ret2
          exact ⟨_, false, rfl, HR.out, below_drewN hb _⟩
        · have h2 : x2 < 0 := by omega
          clear hneg
          go_wp2
          go_ret2
          exact ⟨_, false, rfl, HR.out, below_drewN hb _⟩
      · have h1 : 0 ≤ x1 := by omega
        have h2 : 0 ≤ x2 := by omega
        clear hneg
        obtain ⟨x, y, hx, hy, e1, e2, hP'⟩ := hex_ok s j m hlt hlt2 HM.out HP.out (by rw [HX1.out]; exact h1) (by rw [HX2.out]; exact h2)
        have e1' : x1 = (x : Int) := by rw [← HX1.out]; exact e1
        have e2' : x2 = (y : Int) := by rw [← HX2.out]; exact e2
        have hbyte := Lib.hid (or_byte x y hx hy)
        have HP' := Lib.hid hP'
        clear HX1 HX2 e1 e2 hP'
        subst e1' e2'
        have hm4 : out.length ≤ 4000 := by have := HM.out; omega
        have hbw := hb.size
        go_wp2_with (go_at_call 29; go_must (refine (writeByte_any w.heap.size w.heap.size (Lib.byteCells out) _ (wr.drewN nq) hI (by rw [Lib.byteCells_length]; omega) hbw).mono ?_; rintro e w2 ⟨rfl, hA, hb2⟩))
        go_roundw
        case rel =>
          refine ⟨m + 1, out ++ [UInt8.ofNat (16 * x + y)], by have := HM.out; omega, ?_, ?_, by simp; omega, HP'.out, (below_drewN hb _).trans hb2⟩
          · have := HM.out
            rw [show ((2 * (m + 1) : Nat) : Int) = (j : Int) + 2 by omega]
          · rw [hbyte.out] at hA
            refine .inr ?_
            simpa [Lib.byteCells] using hA
        case measure => simp [intOf]; omega
    · have HP := Lib.hid hP
      clear hP
      have hbw := hb.size
      have hms : 2 * m = s.size := by omega
      have HM := Lib.hid hms
      clear hms hev
      have hge : ¬ ((2 * m : Nat) : Int) < (s.size : Int) := by omega
      generalize hmm : 2 * m = j at *
      go_wp2_with (go_at_call 30; refine (Tryz.Builder_String_any w.heap.size w.heap.size out wr hI hbw).mono ?_; rintro e w2 ⟨rfl, hb2⟩)
      go_ret2
      refine ⟨_, true, rfl, .inl ⟨rfl, ?_⟩, hb.trans hb2⟩
      rw [bytesF_pairs s H0.out H1.out, HP.out, hmm, HM.out, List.drop_of_length_le (by simp)]
      simp [Pl.hexPairs]

set_option maxHeartbeats 1000000 in
set_option maxRecDepth 100000 in
theorem unhex_dash (s : ByteArray) (w : World) (h1 : (s.toList == [45]) = true) : Calls Tryz.prog 38 #[.string s] w (PostH s w) := by
  have hr : HexIs s ⟨#[]⟩ true := .inl ⟨rfl, by rw [Lib.toList_data] at h1; rw [beq_iff_eq] at h1; rw [h1]; rfl⟩
  have HR := Lib.hid hr
  clear hr
  go_enter Tryz.func38, Tryz.ntmps38
  go_wp2
  go_ret2
  exact ⟨_, true, rfl, HR.out, Below.refl _ _⟩
set_option maxHeartbeats 1000000 in
set_option maxRecDepth 100000 in
theorem unhex_empty (s : ByteArray) (w : World) (h1 : (s.toList == [45]) = false) (h0 : s.toList.isEmpty = true) : Calls Tryz.prog 38 #[.string s] w (PostH s w) := by
  have hr : HexIs s ⟨#[]⟩ false := .inr ⟨rfl, by rw [Lib.toList_data] at h0; rw [List.isEmpty_iff] at h0; rw [h0]; rfl⟩
  have HR := Lib.hid hr
  clear hr
  go_enter Tryz.func38, Tryz.ntmps38
  go_wp2
  go_ret2
  exact ⟨_, false, rfl, HR.out, Below.refl _ _⟩
theorem pairs_odd : ∀ (n : Nat) (l : List UInt8), l.length = 2 * n + 1 → Pl.hexPairs l = none
  | 0, l, h => by
    match l, h with
    | [a], _ => rfl
  | n + 1, l, h => by
    match l, h with
    | a :: b :: r, h =>
      rw [Pl.hexPairs, pairs_odd n r (by simp at h; omega)]
      cases Pl.hexV a <;> cases Pl.hexV b <;> rfl
    | [a], h => simp at h
set_option maxHeartbeats 1000000 in
set_option maxRecDepth 100000 in
theorem unhex_odd (s : ByteArray) (w : World) (h1 : (s.toList == [45]) = false) (h0 : s.toList.isEmpty = false) (h2 : ((s.size : Int) % 2 != 0) = true) : Calls Tryz.prog 38 #[.string s] w (PostH s w) := by
  have hr : HexIs s ⟨#[]⟩ false := .inr ⟨rfl, by
    rw [bytesF_pairs s h0 h1]
    refine pairs_odd (s.size / 2) _ ?_
    have := bne_iff_ne.1 h2
    have hl : s.data.toList.length = s.size := by simp
    omega⟩
  have HR := Lib.hid hr
  clear hr
  go_enter Tryz.func38, Tryz.ntmps38
  go_wp2
  go_ret2
  exact ⟨_, false, rfl, HR.out, Below.refl _ _⟩
theorem unhex_any (s : ByteArray) (w : World) (hs : s.size ≤ 4000) : Calls Tryz.prog 38 #[.string s] w (PostH s w) := by
  cases h1 : (s.toList == [45])
  · cases h0 : s.toList.isEmpty
    · cases h2 : ((s.size : Int) % 2 != 0)
      · exact unhex_even s w h0 h1 h2 hs
      · exact unhex_odd s w h1 h0 h2
    · exact unhex_empty s w h1 h0
  · exact unhex_dash s w h1
end Go.Proofs.YtddfpnljkaodcaaGreatDoor
